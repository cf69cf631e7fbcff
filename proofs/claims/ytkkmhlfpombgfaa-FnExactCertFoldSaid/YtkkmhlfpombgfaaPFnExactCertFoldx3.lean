/- The machine's texts of FnExactCertFold (links). Conditions: none. -/
import Derived.Test.YtkkmhlfpombgfaaPFnExactCertFoldx2
set_option linter.unusedVariables false
set_option linter.unusedSimpArgs false
set_option maxRecDepth 100000
set_option maxHeartbeats 4000000
namespace Go.Proofs.Ytkkmhlfpombgfaa.PFnExactCertFold
open Go.RowKit Go.Proofs.YtkkmhlfpombgfaaW.PrintWords Go.Proofs.YtkkmhlfpombgfaaW.PrintLast Go.Proofs.YtkkmhlfpombgfaaW.PrintMore
open Go Go.Proofs Am
theorem w_73 (l0 : List S109) (a1 : Int) (k : AV tau → Mem tau → Option Unit) : fnA E_73 C_73 D_73 Try.f73 B_73 [.sl 109 l0, .int .i64 a1] ⟨[], []⟩ k = (brA (decide ((wrap64 (a1 - ((l0.length : Nat) : Int))) < (0 : Int))) (k (.int .i64 (-(1 : Int))) ⟨[], []⟩) (LP_73_0 k l0 (wrap64 (a1 - ((l0.length : Nat) : Int))) (0 : Int)) : Option Unit) := by
 simp only [← wrapA_i64]
 kernel_rfl
def S_73_0 (N : Nat) : Prop := ∀ (k : AV tau → Mem tau → Option Unit) (x0 : (List S109)) (x1 : Int) (x2 : Int) (r : Int), laws_szEntryS.l0 N (x0) (x1) (x2) = some r → k (.int .i64 (r)) ⟨[], []⟩ = some () → LP_73_0 k x0 x1 x2 = some ()
theorem L_73 (N : Nat) : S_73_0 N := by
 induction N using Nat.strongRecOn with | _ N0 ih =>
 skip
 intro k x0 x1 x2 r h hk
 rcases N0 with _ | N
 · cases h
 first | rw [laws_szEntryS.l0] at h | simp only [laws_szEntryS.l0] at h | (unfold laws_szEntryS.l0 at h; dsimp only at h)
 refine loop_fold mC_73 mD_73 ?_
 refine (w_73_0 k x0 x1 x2).trans ?_
 refine br_eti h rfl (fun c11 h => ?_) (fun c11 h => ?_)
 ·cases h; exact hk
 refine br_g h rfl (fun c12 h => ?_)
 refine br_t (by first | (simp [c11]; done) | (simp; omega) | (simp only [List.length_append, List.length_cons, List.length_nil, List.length_take, List.length_drop] at c11 ⊢; simp; omega) | (simp only [List.length_append, List.length_cons, List.length_nil, List.length_take, List.length_drop] at c11; simp; omega) | (simp_all; done)) ?_
 refine call_h 0 h (fun t0 e13 h => ?_)
 refine br_ite h rfl (fun c14 h => ?_) (fun c14 h => ?_)
 ·cases h; exact hk
 exact (ih N (by omega)) _ _ _ _ _ h hk
theorem okc_73 (args : List (AV tau)) (m : Mem tau) (κ : AV tau → Mem tau → Option Unit) (hh : c_73 args m κ = some ()) : ∃ av m1, κ av m1 = some () ∧ ToldA Try.prog TT (pnT 73) 73 args m av m1 := by
 obtain ⟨bx_, rw_⟩ := m
 unfold c_73 at hh
 simp only at hh
 split at hh
 case h_2 => cases hh
 rename_i b0 b1
 obtain ⟨l0, hx0, hh0⟩ := bO_some hh
 obtain ⟨a1, hx1, hh1⟩ := bO_some hh0
 have ex0 := asSl_some hx0
 have ex1 := asI_some hx1
 subst ex0 ex1
 obtain ⟨N, t, h, hκ⟩ := callX_some hh1
 refine ⟨_, _, hκ, told_of_run pq okC_73 (fun _ _ _ => drawA_ok pq okC_73 hmix) (E := E_73) (fn := Try.f73) (body := B_73) (by kernel_rfl) (by kernel_rfl) (by kernel_rfl) (by rfl) (by exact Nat.le_of_ble_eq_true rfl) (fun k hk => ?_)⟩
 refine (w_73 l0 a1 k).trans ?_
 replace h : laws_szEntryS.f N l0 a1 = some t := h
 unfold laws_szEntryS.f at h
 refine br_ite h rfl (fun c15 h => ?_) (fun c15 h => ?_)
 ·cases h; exact hk
 exact (L_73 N) _ _ _ _ _ h hk
noncomputable def C_134 : Ctr tau Unit := ctrS 73 c_73 C_73
noncomputable def D_134 : Drw tau := drawA E_134 C_134
theorem okC_134 : CtrOk Try.prog TT pnT C_134 := ctrS_ok okC_73 okc_73
theorem mC_134 : CtrMono C_134 := ctrS_mono mC_73 mc_73
theorem mD_134 : DrMono D_134 := drawA_mono mC_134
noncomputable def B_134 : Code := Try.f134.body.getD .skip
theorem mc_134 (args : List (AV tau)) (m : Mem tau) (k k' : AV tau → Mem tau → Option Unit) (hk : ∀ av m, k av m = some () → k' av m = some ()) (h : c_134 args m k = some ()) : c_134 args m k' = some () := by
 unfold c_134 at h ⊢
 split at h
 · repeat' first | exact callX_mono (fun _ h => hk _ _ h) h | refine bO_mono (fun _ h => ?_) h
 · cases h
theorem w_134 (a0_0 : Int) (a0_1 : Int) (k : AV tau → Mem tau → Option Unit) : fnA E_134 C_134 D_134 Try.f134 B_134 [.agg [.int .i64 a0_0, .int .i64 a0_1]] ⟨[], []⟩ k = (k (.agg [.int .i64 a0_0, .int .i64 a0_1]) ⟨[], []⟩ : Option Unit) := by kernel_rfl
theorem okc_134 (args : List (AV tau)) (m : Mem tau) (κ : AV tau → Mem tau → Option Unit) (hh : c_134 args m κ = some ()) : ∃ av m1, κ av m1 = some () ∧ ToldA Try.prog TT (pnT 134) 134 args m av m1 := by
 obtain ⟨bx_, rw_⟩ := m
 unfold c_134 at hh
 simp only at hh
 split at hh
 case h_2 => cases hh
 rename_i b0 b1
 obtain ⟨a0_0, hx0, hh0⟩ := bO_some hh
 obtain ⟨a0_1, hx1, hh1⟩ := bO_some hh0
 have ex0 := asI_some hx0
 have ex1 := asI_some hx1
 subst ex0 ex1
 obtain ⟨N, t, h, hκ⟩ := callX_some hh1
 refine ⟨_, _, hκ, told_of_run pq okC_134 (fun _ _ _ => drawA_ok pq okC_134 hmix) (E := E_134) (fn := Try.f134) (body := B_134) (by kernel_rfl) (by kernel_rfl) (by kernel_rfl) (by rfl) (by exact Nat.le_of_ble_eq_true rfl) (fun k hk => ?_)⟩
 refine (w_134 a0_0 a0_1 k).trans ?_
 replace h : laws_toReq.f a0_0 a0_1 = some t := h
 unfold laws_toReq.f at h
 cases h; exact hk
noncomputable def C_171 : Ctr tau Unit := ctrS 134 c_134 C_134
noncomputable def D_171 : Drw tau := drawA E_171 C_171
theorem okC_171 : CtrOk Try.prog TT pnT C_171 := ctrS_ok okC_134 okc_134
theorem mC_171 : CtrMono C_171 := ctrS_mono mC_134 mc_134
theorem mD_171 : DrMono D_171 := drawA_mono mC_171
noncomputable def B_171 : Code := Try.f171.body.getD .skip
theorem mc_171 (args : List (AV tau)) (m : Mem tau) (k k' : AV tau → Mem tau → Option Unit) (hk : ∀ av m, k av m = some () → k' av m = some ()) (h : c_171 args m k = some ()) : c_171 args m k' = some () := by
 unfold c_171 at h ⊢
 split at h
 · repeat' first | exact callX_mono (fun _ h => hk _ _ h) h | refine bO_mono (fun _ h => ?_) h
 · cases h
theorem w_171 (a0_0 : Int) (a0_1 : Int) (k : AV tau → Mem tau → Option Unit) : fnA E_171 C_171 D_171 Try.f171 B_171 [.agg [.int .i64 a0_0, .int .i64 a0_1]] ⟨[], []⟩ k = (k (.agg [.int .i64 a0_0, .int .i64 a0_1]) ⟨[], []⟩ : Option Unit) := by kernel_rfl
theorem okc_171 (args : List (AV tau)) (m : Mem tau) (κ : AV tau → Mem tau → Option Unit) (hh : c_171 args m κ = some ()) : ∃ av m1, κ av m1 = some () ∧ ToldA Try.prog TT (pnT 171) 171 args m av m1 := by
 obtain ⟨bx_, rw_⟩ := m
 unfold c_171 at hh
 simp only at hh
 split at hh
 case h_2 => cases hh
 rename_i b0 b1
 obtain ⟨a0_0, hx0, hh0⟩ := bO_some hh
 obtain ⟨a0_1, hx1, hh1⟩ := bO_some hh0
 have ex0 := asI_some hx0
 have ex1 := asI_some hx1
 subst ex0 ex1
 obtain ⟨N, t, h, hκ⟩ := callX_some hh1
 refine ⟨_, _, hκ, told_of_run pq okC_171 (fun _ _ _ => drawA_ok pq okC_171 hmix) (E := E_171) (fn := Try.f171) (body := B_171) (by kernel_rfl) (by kernel_rfl) (by kernel_rfl) (by rfl) (by exact Nat.le_of_ble_eq_true rfl) (fun k hk => ?_)⟩
 refine (w_171 a0_0 a0_1 k).trans ?_
 replace h : laws_toRead.f a0_0 a0_1 = some t := h
 unfold laws_toRead.f at h
 cases h; exact hk
noncomputable def C_161 : Ctr tau Unit := ctrS 171 c_171 C_171
noncomputable def D_161 : Drw tau := drawA E_161 C_161
theorem okC_161 : CtrOk Try.prog TT pnT C_161 := ctrS_ok okC_171 okc_171
theorem mC_161 : CtrMono C_161 := ctrS_mono mC_171 mc_171
theorem mD_161 : DrMono D_161 := drawA_mono mC_161
noncomputable def B_161 : Code := Try.f161.body.getD .skip
theorem mc_161 (args : List (AV tau)) (m : Mem tau) (k k' : AV tau → Mem tau → Option Unit) (hk : ∀ av m, k av m = some () → k' av m = some ()) (h : c_161 args m k = some ()) : c_161 args m k' = some () := by
 unfold c_161 at h ⊢
 split at h
 · repeat' first | exact callX_mono (fun _ h => hk _ _ h) h | refine bO_mono (fun _ h => ?_) h
 · cases h
noncomputable def K_161_0 (k : AV tau → Mem tau → Option Unit) : Kon tau := (kBlock 0 (kS E_161 C_161 D_161 (codeP B_161 [1, 1, 1]) (kEnd E_161 Try.f161 k)))
def st_161_0 (x0 : (List S196)) (x1 : Int) (x2 : (List S39)) : St tau := ⟨tmL 23 0 [(0, .sl 196 x0), (3, .own 0 0), (4, .int .i64 x1)], ⟨[], [some ⟨39, x2, 0⟩]⟩⟩
noncomputable def LP_161_0 (k : AV tau → Mem tau → Option Unit) (x0 : (List S196)) (x1 : Int) (x2 : (List S39)) : Option Unit := loopA E_161 (codeA E_161 C_161 D_161 (codeP B_161 [1, 1, 0, 1, 0, 0])) (codeP B_161 [1, 1, 0, 1, 0, 0]) (K_161_0 k) (st_161_0 x0 x1 x2)
theorem w_161_0 (k : AV tau → Mem tau → Option Unit) (x0 : (List S196)) (x1 : Int) (x2 : (List S39)) : codeA E_161 C_161 D_161 (codeP B_161 [1, 1, 0, 1, 0, 0]) (kL E_161 C_161 D_161 (codeP B_161 [1, 1, 0, 1, 0, 0]) (K_161_0 k)) (st_161_0 x0 x1 x2) = (brA (decide (x1 < ((x0.length : Nat) : Int))) (brA (decide ((0 : Int) ≤ x1)) (brA (decide (x1 < ((x0.length : Nat) : Int))) (callX (fun n => laws_toRead.f ((rd_T196 x0 x1).f0) ((rd_T196 x0 x1).f1)) fun t0 => brA (decide ((0 : Int) ≤ x1)) (brA (decide (x1 < ((x2.length : Nat) : Int))) (LP_161_0 k x0 (wrap64 (x1 + (1 : Int))) (List.set x2 (Int.toNat x1) (⟨t0.1, t0.2⟩ : S39))) (none)) (none)) (none)) (none)) (k (.own 0 0) ⟨[], [some ⟨39, x2, 0⟩]⟩) : Option Unit) := by
 simp only [← wrapA_i64]
 kernel_rfl
theorem w_161 (l0 : List S196) (k : AV tau → Mem tau → Option Unit) : fnA E_161 C_161 D_161 Try.f161 B_161 [.sl 196 l0] ⟨[], []⟩ k = (brA (decide ((Int.toNat ((l0.length : Nat) : Int)) ≤ 17592186044416)) (LP_161_0 k l0 (0 : Int) (List.replicate (Int.toNat ((l0.length : Nat) : Int)) (⟨(0 : Int), (0 : Int)⟩ : S39))) (none) : Option Unit) := by kernel_rfl
def S_161_0 (N : Nat) : Prop := ∀ (k : AV tau → Mem tau → Option Unit) (x0 : (List S196)) (x1 : Int) (x2 : (List S39)) (r : (List (S39))), laws_toReadS.l0 N (x0) (x2) (x1) = some r → k (.own 0 0) ⟨[], [some ⟨39, r, 0⟩]⟩ = some () → LP_161_0 k x0 x1 x2 = some ()
theorem L_161 (N : Nat) : S_161_0 N := by
 induction N using Nat.strongRecOn with | _ N0 ih =>
 skip
 intro k x0 x1 x2 r h hk
 rcases N0 with _ | N
 · cases h
 first | rw [laws_toReadS.l0] at h | simp only [laws_toReadS.l0] at h | (unfold laws_toReadS.l0 at h; dsimp only at h)
 refine loop_fold mC_161 mD_161 ?_
 refine (w_161_0 k x0 x1 x2).trans ?_
 refine br_eti h rfl (fun c13 h => ?_) (fun c13 h => ?_)
 ·cases h; exact hk
 refine br_g h rfl (fun c14 h => ?_)
 refine br_t (by first | (simp [c13]; done) | (simp; omega) | (simp only [List.length_append, List.length_cons, List.length_nil, List.length_take, List.length_drop] at c13 ⊢; simp; omega) | (simp only [List.length_append, List.length_cons, List.length_nil, List.length_take, List.length_drop] at c13; simp; omega) | (simp_all; done)) ?_
 refine call_h 0 h (fun t0 e15 h => ?_)
 refine br_t (by first | (simp [c14]; done) | (simp; omega) | (simp only [List.length_append, List.length_cons, List.length_nil, List.length_take, List.length_drop] at c13 ⊢; simp; omega) | (simp only [List.length_append, List.length_cons, List.length_nil, List.length_take, List.length_drop] at c13; simp; omega) | (simp_all; done)) ?_
 refine br_g h rfl (fun c16 h => ?_)
 exact (ih N (by omega)) _ _ _ _ _ h hk
theorem okc_161 (args : List (AV tau)) (m : Mem tau) (κ : AV tau → Mem tau → Option Unit) (hh : c_161 args m κ = some ()) : ∃ av m1, κ av m1 = some () ∧ ToldA Try.prog TT (pnT 161) 161 args m av m1 := by
 obtain ⟨bx_, rw_⟩ := m
 unfold c_161 at hh
 simp only at hh
 split at hh
 case h_2 => cases hh
 rename_i b0
 obtain ⟨l0, hx0, hh0⟩ := bO_some hh
 have ex0 := asSl_some hx0
 subst ex0
 obtain ⟨N, t, h, hκ⟩ := callX_some hh0
 refine ⟨_, _, hκ, told_of_run pq okC_161 (fun _ _ _ => drawA_ok pq okC_161 hmix) (E := E_161) (fn := Try.f161) (body := B_161) (by kernel_rfl) (by kernel_rfl) (by kernel_rfl) (by rfl) (by exact Nat.le_of_ble_eq_true rfl) (fun k hk => ?_)⟩
 refine (w_161 l0 k).trans ?_
 replace h : laws_toReadS.f N l0 = some t := h
 unfold laws_toReadS.f at h
 refine ite_x h (fun c17 h => ?_) (fun _ h => by cases h)
 refine br_g h rfl (fun c18 h => ?_)
 exact (L_161 N) _ _ _ _ _ h hk
noncomputable def C_172 : Ctr tau Unit := ctrS 161 c_161 C_161
noncomputable def D_172 : Drw tau := drawA E_172 C_172
theorem okC_172 : CtrOk Try.prog TT pnT C_172 := ctrS_ok okC_161 okc_161
theorem mC_172 : CtrMono C_172 := ctrS_mono mC_161 mc_161
theorem mD_172 : DrMono D_172 := drawA_mono mC_172
noncomputable def B_172 : Code := Try.f172.body.getD .skip
theorem mc_172 (args : List (AV tau)) (m : Mem tau) (k k' : AV tau → Mem tau → Option Unit) (hk : ∀ av m, k av m = some () → k' av m = some ()) (h : c_172 args m k = some ()) : c_172 args m k' = some () := by
 unfold c_172 at h ⊢
 split at h
 · repeat' first | exact callX_mono (fun _ h => hk _ _ h) h | refine bO_mono (fun _ h => ?_) h
 · cases h
theorem w_172 (a0_0 : Int) (a0_1 : Int) (k : AV tau → Mem tau → Option Unit) : fnA E_172 C_172 D_172 Try.f172 B_172 [.agg [.int .i64 a0_0, .int .i64 a0_1]] ⟨[], []⟩ k = (k (.agg [.int .i64 a0_0, .int .i64 a0_1]) ⟨[], []⟩ : Option Unit) := by kernel_rfl
theorem okc_172 (args : List (AV tau)) (m : Mem tau) (κ : AV tau → Mem tau → Option Unit) (hh : c_172 args m κ = some ()) : ∃ av m1, κ av m1 = some () ∧ ToldA Try.prog TT (pnT 172) 172 args m av m1 := by
 obtain ⟨bx_, rw_⟩ := m
 unfold c_172 at hh
 simp only at hh
 split at hh
 case h_2 => cases hh
 rename_i b0 b1
 obtain ⟨a0_0, hx0, hh0⟩ := bO_some hh
 obtain ⟨a0_1, hx1, hh1⟩ := bO_some hh0
 have ex0 := asI_some hx0
 have ex1 := asI_some hx1
 subst ex0 ex1
 obtain ⟨N, t, h, hκ⟩ := callX_some hh1
 refine ⟨_, _, hκ, told_of_run pq okC_172 (fun _ _ _ => drawA_ok pq okC_172 hmix) (E := E_172) (fn := Try.f172) (body := B_172) (by kernel_rfl) (by kernel_rfl) (by kernel_rfl) (by rfl) (by exact Nat.le_of_ble_eq_true rfl) (fun k hk => ?_)⟩
 refine (w_172 a0_0 a0_1 k).trans ?_
 replace h : laws_toPut.f a0_0 a0_1 = some t := h
 unfold laws_toPut.f at h
 cases h; exact hk
noncomputable def C_162 : Ctr tau Unit := ctrS 172 c_172 C_172
noncomputable def D_162 : Drw tau := drawA E_162 C_162
theorem okC_162 : CtrOk Try.prog TT pnT C_162 := ctrS_ok okC_172 okc_172
theorem mC_162 : CtrMono C_162 := ctrS_mono mC_172 mc_172
theorem mD_162 : DrMono D_162 := drawA_mono mC_162
noncomputable def B_162 : Code := Try.f162.body.getD .skip
theorem mc_162 (args : List (AV tau)) (m : Mem tau) (k k' : AV tau → Mem tau → Option Unit) (hk : ∀ av m, k av m = some () → k' av m = some ()) (h : c_162 args m k = some ()) : c_162 args m k' = some () := by
 unfold c_162 at h ⊢
 split at h
 · repeat' first | exact callX_mono (fun _ h => hk _ _ h) h | refine bO_mono (fun _ h => ?_) h
 · cases h
noncomputable def K_162_0 (k : AV tau → Mem tau → Option Unit) : Kon tau := (kBlock 0 (kS E_162 C_162 D_162 (codeP B_162 [1, 1, 1]) (kEnd E_162 Try.f162 k)))
def st_162_0 (x0 : (List S198)) (x1 : Int) (x2 : (List S82)) : St tau := ⟨tmL 23 0 [(0, .sl 198 x0), (3, .own 0 0), (4, .int .i64 x1)], ⟨[], [some ⟨82, x2, 0⟩]⟩⟩
noncomputable def LP_162_0 (k : AV tau → Mem tau → Option Unit) (x0 : (List S198)) (x1 : Int) (x2 : (List S82)) : Option Unit := loopA E_162 (codeA E_162 C_162 D_162 (codeP B_162 [1, 1, 0, 1, 0, 0])) (codeP B_162 [1, 1, 0, 1, 0, 0]) (K_162_0 k) (st_162_0 x0 x1 x2)
theorem w_162_0 (k : AV tau → Mem tau → Option Unit) (x0 : (List S198)) (x1 : Int) (x2 : (List S82)) : codeA E_162 C_162 D_162 (codeP B_162 [1, 1, 0, 1, 0, 0]) (kL E_162 C_162 D_162 (codeP B_162 [1, 1, 0, 1, 0, 0]) (K_162_0 k)) (st_162_0 x0 x1 x2) = (brA (decide (x1 < ((x0.length : Nat) : Int))) (brA (decide ((0 : Int) ≤ x1)) (brA (decide (x1 < ((x0.length : Nat) : Int))) (callX (fun n => laws_toPut.f ((rd_T198 x0 x1).f0) ((rd_T198 x0 x1).f1)) fun t0 => brA (decide ((0 : Int) ≤ x1)) (brA (decide (x1 < ((x2.length : Nat) : Int))) (LP_162_0 k x0 (wrap64 (x1 + (1 : Int))) (List.set x2 (Int.toNat x1) (⟨t0.1, t0.2⟩ : S82))) (none)) (none)) (none)) (none)) (k (.own 0 0) ⟨[], [some ⟨82, x2, 0⟩]⟩) : Option Unit) := by
 simp only [← wrapA_i64]
 kernel_rfl
theorem w_162 (l0 : List S198) (k : AV tau → Mem tau → Option Unit) : fnA E_162 C_162 D_162 Try.f162 B_162 [.sl 198 l0] ⟨[], []⟩ k = (brA (decide ((Int.toNat ((l0.length : Nat) : Int)) ≤ 17592186044416)) (LP_162_0 k l0 (0 : Int) (List.replicate (Int.toNat ((l0.length : Nat) : Int)) (⟨(0 : Int), (0 : Int)⟩ : S82))) (none) : Option Unit) := by kernel_rfl
def S_162_0 (N : Nat) : Prop := ∀ (k : AV tau → Mem tau → Option Unit) (x0 : (List S198)) (x1 : Int) (x2 : (List S82)) (r : (List (S82))), laws_toPutS.l0 N (x0) (x2) (x1) = some r → k (.own 0 0) ⟨[], [some ⟨82, r, 0⟩]⟩ = some () → LP_162_0 k x0 x1 x2 = some ()
theorem L_162 (N : Nat) : S_162_0 N := by
 induction N using Nat.strongRecOn with | _ N0 ih =>
 skip
 intro k x0 x1 x2 r h hk
 rcases N0 with _ | N
 · cases h
 first | rw [laws_toPutS.l0] at h | simp only [laws_toPutS.l0] at h | (unfold laws_toPutS.l0 at h; dsimp only at h)
 refine loop_fold mC_162 mD_162 ?_
 refine (w_162_0 k x0 x1 x2).trans ?_
 refine br_eti h rfl (fun c13 h => ?_) (fun c13 h => ?_)
 ·cases h; exact hk
 refine br_g h rfl (fun c14 h => ?_)
 refine br_t (by first | (simp [c13]; done) | (simp; omega) | (simp only [List.length_append, List.length_cons, List.length_nil, List.length_take, List.length_drop] at c13 ⊢; simp; omega) | (simp only [List.length_append, List.length_cons, List.length_nil, List.length_take, List.length_drop] at c13; simp; omega) | (simp_all; done)) ?_
 refine call_h 0 h (fun t0 e15 h => ?_)
 refine br_t (by first | (simp [c14]; done) | (simp; omega) | (simp only [List.length_append, List.length_cons, List.length_nil, List.length_take, List.length_drop] at c13 ⊢; simp; omega) | (simp only [List.length_append, List.length_cons, List.length_nil, List.length_take, List.length_drop] at c13; simp; omega) | (simp_all; done)) ?_
 refine br_g h rfl (fun c16 h => ?_)
 exact (ih N (by omega)) _ _ _ _ _ h hk
theorem okc_162 (args : List (AV tau)) (m : Mem tau) (κ : AV tau → Mem tau → Option Unit) (hh : c_162 args m κ = some ()) : ∃ av m1, κ av m1 = some () ∧ ToldA Try.prog TT (pnT 162) 162 args m av m1 := by
 obtain ⟨bx_, rw_⟩ := m
 unfold c_162 at hh
 simp only at hh
 split at hh
 case h_2 => cases hh
 rename_i b0
 obtain ⟨l0, hx0, hh0⟩ := bO_some hh
 have ex0 := asSl_some hx0
 subst ex0
 obtain ⟨N, t, h, hκ⟩ := callX_some hh0
 refine ⟨_, _, hκ, told_of_run pq okC_162 (fun _ _ _ => drawA_ok pq okC_162 hmix) (E := E_162) (fn := Try.f162) (body := B_162) (by kernel_rfl) (by kernel_rfl) (by kernel_rfl) (by rfl) (by exact Nat.le_of_ble_eq_true rfl) (fun k hk => ?_)⟩
 refine (w_162 l0 k).trans ?_
 replace h : laws_toPutS.f N l0 = some t := h
 unfold laws_toPutS.f at h
 refine ite_x h (fun c17 h => ?_) (fun _ h => by cases h)
 refine br_g h rfl (fun c18 h => ?_)
 exact (L_162 N) _ _ _ _ _ h hk
noncomputable def C_135 : Ctr tau Unit := ctrS 162 c_162 C_162
noncomputable def D_135 : Drw tau := drawA E_135 C_135
theorem okC_135 : CtrOk Try.prog TT pnT C_135 := ctrS_ok okC_162 okc_162
theorem mC_135 : CtrMono C_135 := ctrS_mono mC_162 mc_162
theorem mD_135 : DrMono D_135 := drawA_mono mC_135
noncomputable def B_135 : Code := Try.f135.body.getD .skip
theorem mc_135 (args : List (AV tau)) (m : Mem tau) (k k' : AV tau → Mem tau → Option Unit) (hk : ∀ av m, k av m = some () → k' av m = some ()) (h : c_135 args m k = some ()) : c_135 args m k' = some () := by
 unfold c_135 at h ⊢
 split at h
 · repeat' first | exact callX_mono (fun _ h => hk _ _ h) h | refine bO_mono (fun _ h => ?_) h
 · cases h
theorem w_135 (l0_0 : List S196) (l0_1 : List S198) (a0_2 : Int) (a0_3 : Int) (k : AV tau → Mem tau → Option Unit) : fnA E_135 C_135 D_135 Try.f135 B_135 [.agg [.sl 196 l0_0, .sl 198 l0_1, .int .i64 a0_2, .int .i64 a0_3]] ⟨[], []⟩ k = (callX (fun n => laws_toReadS.f n l0_0) fun t0 => callX (fun n => laws_toPutS.f n l0_1) fun t1 => k (.agg [.own 0 0, .own 1 0, .int .i64 a0_2, .int .i64 a0_3]) ⟨[], [some ⟨39, t0, 0⟩, some ⟨82, t1, 0⟩]⟩ : Option Unit) := by kernel_rfl
theorem okc_135 (args : List (AV tau)) (m : Mem tau) (κ : AV tau → Mem tau → Option Unit) (hh : c_135 args m κ = some ()) : ∃ av m1, κ av m1 = some () ∧ ToldA Try.prog TT (pnT 135) 135 args m av m1 := by
 obtain ⟨bx_, rw_⟩ := m
 unfold c_135 at hh
 simp only at hh
 split at hh
 case h_2 => cases hh
 rename_i b0 b1 b2 b3
 obtain ⟨l0_0, hx0, hh0⟩ := bO_some hh
 obtain ⟨l0_1, hx1, hh1⟩ := bO_some hh0
 obtain ⟨a0_2, hx2, hh2⟩ := bO_some hh1
 obtain ⟨a0_3, hx3, hh3⟩ := bO_some hh2
 have ex0 := asSl_some hx0
 have ex1 := asSl_some hx1
 have ex2 := asI_some hx2
 have ex3 := asI_some hx3
 subst ex0 ex1 ex2 ex3
 obtain ⟨N, t, h, hκ⟩ := callX_some hh3
 refine ⟨_, _, hκ, told_of_run pq okC_135 (fun _ _ _ => drawA_ok pq okC_135 hmix) (E := E_135) (fn := Try.f135) (body := B_135) (by kernel_rfl) (by kernel_rfl) (by kernel_rfl) (by rfl) (by exact Nat.le_of_ble_eq_true rfl) (fun k hk => ?_)⟩
 refine (w_135 l0_0 l0_1 a0_2 a0_3 k).trans ?_
 replace h : laws_toRun.f N l0_0 l0_1 a0_2 a0_3 = some t := h
 unfold laws_toRun.f at h
 refine call_h N h (fun t0 e3 h => ?_)
 refine call_h N h (fun t1 e4 h => ?_)
 cases h; exact hk
noncomputable def C_67 : Ctr tau Unit := ctrS 135 c_135 C_135
noncomputable def D_67 : Drw tau := drawA E_67 C_67
theorem okC_67 : CtrOk Try.prog TT pnT C_67 := ctrS_ok okC_135 okc_135
theorem mC_67 : CtrMono C_67 := ctrS_mono mC_135 mc_135
theorem mD_67 : DrMono D_67 := drawA_mono mC_67
noncomputable def B_67 : Code := Try.f67.body.getD .skip
theorem mc_67 (args : List (AV tau)) (m : Mem tau) (k k' : AV tau → Mem tau → Option Unit) (hk : ∀ av m, k av m = some () → k' av m = some ()) (h : c_67 args m k = some ()) : c_67 args m k' = some () := by
 unfold c_67 at h ⊢
 split at h
 · repeat' first | exact callX_mono (fun _ h => hk _ _ h) h | refine bO_mono (fun _ h => ?_) h
 · cases h
theorem w_67 (a0_0 : Bool) (a0_1 : Int) (a0_2 : Int) (l0_3 : List S196) (l0_4 : List S198) (a0_5 : Int) (a0_6 : Int) (k : AV tau → Mem tau → Option Unit) : fnA E_67 C_67 D_67 Try.f67 B_67 [.agg [.bool a0_0, .int .i64 a0_1, .int .i64 a0_2, .sl 196 l0_3, .sl 198 l0_4, .int .i64 a0_5, .int .i64 a0_6]] ⟨[], []⟩ k = (callX (fun n => laws_toReq.f a0_1 a0_2) fun t0 => callX (fun n => laws_toRun.f n l0_3 l0_4 a0_5 a0_6) fun t1 => k (.agg [.bool a0_0, .int .i64 t0.1, .int .i64 t0.2, .own 0 0, .own 1 0, .int .i64 t1.2.2.1, .int .i64 t1.2.2.2]) ⟨[], [some ⟨39, t1.1, 0⟩, some ⟨82, t1.2.1, 0⟩]⟩ : Option Unit) := by kernel_rfl
theorem okc_67 (args : List (AV tau)) (m : Mem tau) (κ : AV tau → Mem tau → Option Unit) (hh : c_67 args m κ = some ()) : ∃ av m1, κ av m1 = some () ∧ ToldA Try.prog TT (pnT 67) 67 args m av m1 := by
 obtain ⟨bx_, rw_⟩ := m
 unfold c_67 at hh
 simp only at hh
 split at hh
 case h_2 => cases hh
 rename_i b0 b1 b2 b3 b4 b5 b6
 obtain ⟨a0_0, hx0, hh0⟩ := bO_some hh
 obtain ⟨a0_1, hx1, hh1⟩ := bO_some hh0
 obtain ⟨a0_2, hx2, hh2⟩ := bO_some hh1
 obtain ⟨l0_3, hx3, hh3⟩ := bO_some hh2
 obtain ⟨l0_4, hx4, hh4⟩ := bO_some hh3
 obtain ⟨a0_5, hx5, hh5⟩ := bO_some hh4
 obtain ⟨a0_6, hx6, hh6⟩ := bO_some hh5
 have ex0 := asB_some hx0
 have ex1 := asI_some hx1
 have ex2 := asI_some hx2
 have ex3 := asSl_some hx3
 have ex4 := asSl_some hx4
 have ex5 := asI_some hx5
 have ex6 := asI_some hx6
 subst ex0 ex1 ex2 ex3 ex4 ex5 ex6
 obtain ⟨N, t, h, hκ⟩ := callX_some hh6
 refine ⟨_, _, hκ, told_of_run pq okC_67 (fun _ _ _ => drawA_ok pq okC_67 hmix) (E := E_67) (fn := Try.f67) (body := B_67) (by kernel_rfl) (by kernel_rfl) (by kernel_rfl) (by rfl) (by exact Nat.le_of_ble_eq_true rfl) (fun k hk => ?_)⟩
 refine (w_67 a0_0 a0_1 a0_2 l0_3 l0_4 a0_5 a0_6 k).trans ?_
 replace h : laws_toEntry.f N a0_0 a0_1 a0_2 l0_3 l0_4 a0_5 a0_6 = some t := h
 unfold laws_toEntry.f at h
 refine call_h 0 h (fun t0 e3 h => ?_)
 refine call_h N h (fun t1 e4 h => ?_)
 cases h; exact hk
noncomputable def C_74 : Ctr tau Unit := ctrS 67 c_67 C_67
noncomputable def D_74 : Drw tau := drawA E_74 C_74
theorem okC_74 : CtrOk Try.prog TT pnT C_74 := ctrS_ok okC_67 okc_67
theorem mC_74 : CtrMono C_74 := ctrS_mono mC_67 mc_67
theorem mD_74 : DrMono D_74 := drawA_mono mC_74
noncomputable def B_74 : Code := Try.f74.body.getD .skip
theorem mc_74 (args : List (AV tau)) (m : Mem tau) (k k' : AV tau → Mem tau → Option Unit) (hk : ∀ av m, k av m = some () → k' av m = some ()) (h : c_74 args m k = some ()) : c_74 args m k' = some () := by
 unfold c_74 at h ⊢
 split at h
 · repeat' first | exact callX_mono (fun _ h => hk _ _ h) h | refine bO_mono (fun _ h => ?_) h
 · cases h
noncomputable def K_74_0 (k : AV tau → Mem tau → Option Unit) : Kon tau := (kBlock 0 (kS E_74 C_74 D_74 (codeP B_74 [1, 1, 1]) (kEnd E_74 Try.f74 k)))
def st_74_0 (x0 : (List S109)) (x1 : Int) (x2 : (List S77)) : St tau := ⟨tmL 23 0 [(0, .sl 109 x0), (3, .own 0 0), (4, .int .i64 x1)], ⟨[], [some ⟨77, x2, 0⟩]⟩⟩
noncomputable def LP_74_0 (k : AV tau → Mem tau → Option Unit) (x0 : (List S109)) (x1 : Int) (x2 : (List S77)) : Option Unit := loopA E_74 (codeA E_74 C_74 D_74 (codeP B_74 [1, 1, 0, 1, 0, 0])) (codeP B_74 [1, 1, 0, 1, 0, 0]) (K_74_0 k) (st_74_0 x0 x1 x2)
theorem w_74_0 (k : AV tau → Mem tau → Option Unit) (x0 : (List S109)) (x1 : Int) (x2 : (List S77)) : codeA E_74 C_74 D_74 (codeP B_74 [1, 1, 0, 1, 0, 0]) (kL E_74 C_74 D_74 (codeP B_74 [1, 1, 0, 1, 0, 0]) (K_74_0 k)) (st_74_0 x0 x1 x2) = (brA (decide (x1 < ((x0.length : Nat) : Int))) (brA (decide ((0 : Int) ≤ x1)) (brA (decide (x1 < ((x0.length : Nat) : Int))) (callX (fun n => laws_toEntry.f n ((rd_T109 x0 x1).f0) (((rd_T109 x0 x1).f1).f0) (((rd_T109 x0 x1).f1).f1) (((rd_T109 x0 x1).f2).f0) (((rd_T109 x0 x1).f2).f1) (((rd_T109 x0 x1).f2).f2) (((rd_T109 x0 x1).f2).f3)) fun t0 => brA (decide ((0 : Int) ≤ x1)) (brA (decide (x1 < ((x2.length : Nat) : Int))) (LP_74_0 k x0 (wrap64 (x1 + (1 : Int))) (List.set x2 (Int.toNat x1) (⟨t0.1, (⟨t0.2.1, t0.2.2.1⟩ : S75), (⟨t0.2.2.2.1, t0.2.2.2.2.1, t0.2.2.2.2.2.1, t0.2.2.2.2.2.2⟩ : S26)⟩ : S77))) (none)) (none)) (none)) (none)) (k (.own 0 0) ⟨[], [some ⟨77, x2, 0⟩]⟩) : Option Unit) := by
 simp only [← wrapA_i64]
 kernel_rfl
theorem w_74 (l0 : List S109) (k : AV tau → Mem tau → Option Unit) : fnA E_74 C_74 D_74 Try.f74 B_74 [.sl 109 l0] ⟨[], []⟩ k = (brA (decide ((Int.toNat ((l0.length : Nat) : Int)) ≤ 3198579280802)) (LP_74_0 k l0 (0 : Int) (List.replicate (Int.toNat ((l0.length : Nat) : Int)) (⟨false, (⟨(0 : Int), (0 : Int)⟩ : S75), (⟨([] : List S39), ([] : List S82), (0 : Int), (0 : Int)⟩ : S26)⟩ : S77))) (none) : Option Unit) := by kernel_rfl
def S_74_0 (N : Nat) : Prop := ∀ (k : AV tau → Mem tau → Option Unit) (x0 : (List S109)) (x1 : Int) (x2 : (List S77)) (r : (List (S77))), laws_toEntryS.l0 N (x0) (x2) (x1) = some r → k (.own 0 0) ⟨[], [some ⟨77, r, 0⟩]⟩ = some () → LP_74_0 k x0 x1 x2 = some ()
theorem L_74 (N : Nat) : S_74_0 N := by
 induction N using Nat.strongRecOn with | _ N0 ih =>
 skip
 intro k x0 x1 x2 r h hk
 rcases N0 with _ | N
 · cases h
 first | rw [laws_toEntryS.l0] at h | simp only [laws_toEntryS.l0] at h | (unfold laws_toEntryS.l0 at h; dsimp only at h)
 refine loop_fold mC_74 mD_74 ?_
 refine (w_74_0 k x0 x1 x2).trans ?_
 refine br_eti h rfl (fun c13 h => ?_) (fun c13 h => ?_)
 ·cases h; exact hk
 refine br_g h rfl (fun c14 h => ?_)
 refine br_t (by first | (simp [c13]; done) | (simp; omega) | (simp only [List.length_append, List.length_cons, List.length_nil, List.length_take, List.length_drop] at c13 ⊢; simp; omega) | (simp only [List.length_append, List.length_cons, List.length_nil, List.length_take, List.length_drop] at c13; simp; omega) | (simp_all; done)) ?_
 refine call_h N h (fun t0 e15 h => ?_)
 refine br_t (by first | (simp [c14]; done) | (simp; omega) | (simp only [List.length_append, List.length_cons, List.length_nil, List.length_take, List.length_drop] at c13 ⊢; simp; omega) | (simp only [List.length_append, List.length_cons, List.length_nil, List.length_take, List.length_drop] at c13; simp; omega) | (simp_all; done)) ?_
 refine br_g h rfl (fun c16 h => ?_)
 exact (ih N (by omega)) _ _ _ _ _ h hk
theorem okc_74 (args : List (AV tau)) (m : Mem tau) (κ : AV tau → Mem tau → Option Unit) (hh : c_74 args m κ = some ()) : ∃ av m1, κ av m1 = some () ∧ ToldA Try.prog TT (pnT 74) 74 args m av m1 := by
 obtain ⟨bx_, rw_⟩ := m
 unfold c_74 at hh
 simp only at hh
 split at hh
 case h_2 => cases hh
 rename_i b0
 obtain ⟨l0, hx0, hh0⟩ := bO_some hh
 have ex0 := asSl_some hx0
 subst ex0
 obtain ⟨N, t, h, hκ⟩ := callX_some hh0
 refine ⟨_, _, hκ, told_of_run pq okC_74 (fun _ _ _ => drawA_ok pq okC_74 hmix) (E := E_74) (fn := Try.f74) (body := B_74) (by kernel_rfl) (by kernel_rfl) (by kernel_rfl) (by rfl) (by exact Nat.le_of_ble_eq_true rfl) (fun k hk => ?_)⟩
 refine (w_74 l0 k).trans ?_
 replace h : laws_toEntryS.f N l0 = some t := h
 unfold laws_toEntryS.f at h
 refine ite_x h (fun c17 h => ?_) (fun _ h => by cases h)
 refine br_g h rfl (fun c18 h => ?_)
 exact (L_74 N) _ _ _ _ _ h hk
noncomputable def C_173 : Ctr tau Unit := ctrS 74 c_74 C_74
noncomputable def D_173 : Drw tau := drawA E_173 C_173
theorem okC_173 : CtrOk Try.prog TT pnT C_173 := ctrS_ok okC_74 okc_74
theorem mC_173 : CtrMono C_173 := ctrS_mono mC_74 mc_74
theorem mD_173 : DrMono D_173 := drawA_mono mC_173
noncomputable def B_173 : Code := Try.f173.body.getD .skip
theorem mc_173 (args : List (AV tau)) (m : Mem tau) (k k' : AV tau → Mem tau → Option Unit) (hk : ∀ av m, k av m = some () → k' av m = some ()) (h : c_173 args m k = some ()) : c_173 args m k' = some () := by
 unfold c_173 at h ⊢
 split at h
 · repeat' first | exact callX_mono (fun _ h => hk _ _ h) h | refine bO_mono (fun _ h => ?_) h
 · cases h
theorem w_173 (a0_0 : Int) (a0_1 : Int) (a1_0 : Int) (a1_1 : Int) (k : AV tau → Mem tau → Option Unit) : fnA E_173 C_173 D_173 Try.f173 B_173 [.agg [.int .i64 a0_0, .int .i64 a0_1], .agg [.int .i64 a1_0, .int .i64 a1_1]] ⟨[], []⟩ k = (brA (!(decide (a0_0 = a1_0))) (k (.bool false) ⟨[], []⟩) (brA (!(decide (a0_1 = a1_1))) (k (.bool false) ⟨[], []⟩) (k (.bool true) ⟨[], []⟩)) : Option Unit) := by kernel_rfl
theorem okc_173 (args : List (AV tau)) (m : Mem tau) (κ : AV tau → Mem tau → Option Unit) (hh : c_173 args m κ = some ()) : ∃ av m1, κ av m1 = some () ∧ ToldA Try.prog TT (pnT 173) 173 args m av m1 := by
 obtain ⟨bx_, rw_⟩ := m
 unfold c_173 at hh
 simp only at hh
 split at hh
 case h_2 => cases hh
 rename_i b0 b1 b2 b3
 obtain ⟨a0_0, hx0, hh0⟩ := bO_some hh
 obtain ⟨a0_1, hx1, hh1⟩ := bO_some hh0
 obtain ⟨a1_0, hx2, hh2⟩ := bO_some hh1
 obtain ⟨a1_1, hx3, hh3⟩ := bO_some hh2
 have ex0 := asI_some hx0
 have ex1 := asI_some hx1
 have ex2 := asI_some hx2
 have ex3 := asI_some hx3
 subst ex0 ex1 ex2 ex3
 obtain ⟨N, t, h, hκ⟩ := callX_some hh3
 refine ⟨_, _, hκ, told_of_run pq okC_173 (fun _ _ _ => drawA_ok pq okC_173 hmix) (E := E_173) (fn := Try.f173) (body := B_173) (by kernel_rfl) (by kernel_rfl) (by kernel_rfl) (by rfl) (by exact Nat.le_of_ble_eq_true rfl) (fun k hk => ?_)⟩
 refine (w_173 a0_0 a0_1 a1_0 a1_1 k).trans ?_
 replace h : laws_eqRead.f a0_0 a0_1 a1_0 a1_1 = some t := h
 unfold laws_eqRead.f at h
 refine br_etn h rfl (fun c3 h => ?_) (fun c3 h => ?_)
 ·cases h; exact hk
 refine br_itn h rfl (fun c4 h => ?_) (fun c4 h => ?_)
 ·cases h; exact hk
 cases h; exact hk
noncomputable def C_164 : Ctr tau Unit := ctrS 173 c_173 C_173
noncomputable def D_164 : Drw tau := drawA E_164 C_164
theorem okC_164 : CtrOk Try.prog TT pnT C_164 := ctrS_ok okC_173 okc_173
theorem mC_164 : CtrMono C_164 := ctrS_mono mC_173 mc_173
theorem mD_164 : DrMono D_164 := drawA_mono mC_164
noncomputable def B_164 : Code := Try.f164.body.getD .skip
theorem mc_164 (args : List (AV tau)) (m : Mem tau) (k k' : AV tau → Mem tau → Option Unit) (hk : ∀ av m, k av m = some () → k' av m = some ()) (h : c_164 args m k = some ()) : c_164 args m k' = some () := by
 unfold c_164 at h ⊢
 split at h
 · repeat' first | exact callX_mono (fun _ h => hk _ _ h) h | refine bO_mono (fun _ h => ?_) h
 · cases h
noncomputable def K_164_0 (k : AV tau → Mem tau → Option Unit) : Kon tau := (kBlock 0 (kS E_164 C_164 D_164 (codeP B_164 [1, 1, 1]) (kEnd E_164 Try.f164 k)))
def st_164_0 (x0 : (List S39)) (x1 : (List S39)) (x2 : Int) : St tau := ⟨tmL 27 0 [(0, .sl 39 x0), (1, .sl 39 x1), (5, .int .i64 x2)], ⟨[], []⟩⟩
noncomputable def LP_164_0 (k : AV tau → Mem tau → Option Unit) (x0 : (List S39)) (x1 : (List S39)) (x2 : Int) : Option Unit := loopA E_164 (codeA E_164 C_164 D_164 (codeP B_164 [1, 1, 0, 1, 0, 0])) (codeP B_164 [1, 1, 0, 1, 0, 0]) (K_164_0 k) (st_164_0 x0 x1 x2)
theorem w_164_0 (k : AV tau → Mem tau → Option Unit) (x0 : (List S39)) (x1 : (List S39)) (x2 : Int) : codeA E_164 C_164 D_164 (codeP B_164 [1, 1, 0, 1, 0, 0]) (kL E_164 C_164 D_164 (codeP B_164 [1, 1, 0, 1, 0, 0]) (K_164_0 k)) (st_164_0 x0 x1 x2) = (brA (decide (x2 < ((x0.length : Nat) : Int))) (brA (decide ((0 : Int) ≤ x2)) (brA (decide (x2 < ((x0.length : Nat) : Int))) (brA (decide ((0 : Int) ≤ x2)) (brA (decide (x2 < ((x1.length : Nat) : Int))) (callX (fun n => laws_eqRead.f ((rd_T39 x0 x2).f0) ((rd_T39 x0 x2).f1) ((rd_T39 x1 x2).f0) ((rd_T39 x1 x2).f1)) fun t0 => brA (!t0) (k (.bool false) ⟨[], []⟩) (LP_164_0 k x0 x1 (wrap64 (x2 + (1 : Int))))) (none)) (none)) (none)) (none)) (k (.bool true) ⟨[], []⟩) : Option Unit) := by
 simp only [← wrapA_i64]
 kernel_rfl
theorem w_164 (l0 : List S39) (l1 : List S39) (k : AV tau → Mem tau → Option Unit) : fnA E_164 C_164 D_164 Try.f164 B_164 [.sl 39 l0, .sl 39 l1] ⟨[], []⟩ k = (brA (!(decide (((l0.length : Nat) : Int) = ((l1.length : Nat) : Int)))) (k (.bool false) ⟨[], []⟩) (LP_164_0 k l0 l1 (0 : Int)) : Option Unit) := by kernel_rfl
def S_164_0 (N : Nat) : Prop := ∀ (k : AV tau → Mem tau → Option Unit) (x0 : (List S39)) (x1 : (List S39)) (x2 : Int) (r : Bool), laws_eqReadS.l0 N (x0) (x1) (x2) = some r → k (.bool (r)) ⟨[], []⟩ = some () → LP_164_0 k x0 x1 x2 = some ()
theorem L_164 (N : Nat) : S_164_0 N := by
 induction N using Nat.strongRecOn with | _ N0 ih =>
 skip
 intro k x0 x1 x2 r h hk
 rcases N0 with _ | N
 · cases h
 first | rw [laws_eqReadS.l0] at h | simp only [laws_eqReadS.l0] at h | (unfold laws_eqReadS.l0 at h; dsimp only at h)
 refine loop_fold mC_164 mD_164 ?_
 refine (w_164_0 k x0 x1 x2).trans ?_
 refine br_eti h rfl (fun c13 h => ?_) (fun c13 h => ?_)
 ·cases h; exact hk
 refine br_g h rfl (fun c14 h => ?_)
 refine br_t (by first | (simp [c13]; done) | (simp; omega) | (simp only [List.length_append, List.length_cons, List.length_nil, List.length_take, List.length_drop] at c13 ⊢; simp; omega) | (simp only [List.length_append, List.length_cons, List.length_nil, List.length_take, List.length_drop] at c13; simp; omega) | (simp_all; done)) ?_
 refine br_t (by first | (simp [c14]; done) | (simp; omega) | (simp only [List.length_append, List.length_cons, List.length_nil, List.length_take, List.length_drop] at c13 ⊢; simp; omega) | (simp only [List.length_append, List.length_cons, List.length_nil, List.length_take, List.length_drop] at c13; simp; omega) | (simp_all; done)) ?_
 refine br_g h rfl (fun c15 h => ?_)
 refine call_h 0 h (fun t0 e16 h => ?_)
 refine br_etn h (congrArg not dect) (fun c17 h => ?_) (fun c17 h => ?_)
 ·cases h; exact hk
 exact (ih N (by omega)) _ _ _ _ _ h hk
theorem okc_164 (args : List (AV tau)) (m : Mem tau) (κ : AV tau → Mem tau → Option Unit) (hh : c_164 args m κ = some ()) : ∃ av m1, κ av m1 = some () ∧ ToldA Try.prog TT (pnT 164) 164 args m av m1 := by
 obtain ⟨bx_, rw_⟩ := m
 unfold c_164 at hh
 simp only at hh
 split at hh
 case h_2 => cases hh
 rename_i b0 b1
 obtain ⟨l0, hx0, hh0⟩ := bO_some hh
 obtain ⟨l1, hx1, hh1⟩ := bO_some hh0
 have ex0 := asSl_some hx0
 have ex1 := asSl_some hx1
 subst ex0 ex1
 obtain ⟨N, t, h, hκ⟩ := callX_some hh1
 refine ⟨_, _, hκ, told_of_run pq okC_164 (fun _ _ _ => drawA_ok pq okC_164 hmix) (E := E_164) (fn := Try.f164) (body := B_164) (by kernel_rfl) (by kernel_rfl) (by kernel_rfl) (by rfl) (by exact Nat.le_of_ble_eq_true rfl) (fun k hk => ?_)⟩
 refine (w_164 l0 l1 k).trans ?_
 replace h : laws_eqReadS.f N l0 l1 = some t := h
 unfold laws_eqReadS.f at h
 refine br_etn h rfl (fun c18 h => ?_) (fun c18 h => ?_)
 ·cases h; exact hk
 exact (L_164 N) _ _ _ _ _ h hk
noncomputable def C_174 : Ctr tau Unit := ctrS 164 c_164 C_164
noncomputable def D_174 : Drw tau := drawA E_174 C_174
theorem okC_174 : CtrOk Try.prog TT pnT C_174 := ctrS_ok okC_164 okc_164
theorem mC_174 : CtrMono C_174 := ctrS_mono mC_164 mc_164
theorem mD_174 : DrMono D_174 := drawA_mono mC_174
noncomputable def B_174 : Code := Try.f174.body.getD .skip
theorem mc_174 (args : List (AV tau)) (m : Mem tau) (k k' : AV tau → Mem tau → Option Unit) (hk : ∀ av m, k av m = some () → k' av m = some ()) (h : c_174 args m k = some ()) : c_174 args m k' = some () := by
 unfold c_174 at h ⊢
 split at h
 · repeat' first | exact callX_mono (fun _ h => hk _ _ h) h | refine bO_mono (fun _ h => ?_) h
 · cases h
theorem w_174 (a0_0 : Int) (a0_1 : Int) (a1_0 : Int) (a1_1 : Int) (k : AV tau → Mem tau → Option Unit) : fnA E_174 C_174 D_174 Try.f174 B_174 [.agg [.int .i64 a0_0, .int .i64 a0_1], .agg [.int .i64 a1_0, .int .i64 a1_1]] ⟨[], []⟩ k = (brA (!(decide (a0_0 = a1_0))) (k (.bool false) ⟨[], []⟩) (brA (!(decide (a0_1 = a1_1))) (k (.bool false) ⟨[], []⟩) (k (.bool true) ⟨[], []⟩)) : Option Unit) := by kernel_rfl
theorem okc_174 (args : List (AV tau)) (m : Mem tau) (κ : AV tau → Mem tau → Option Unit) (hh : c_174 args m κ = some ()) : ∃ av m1, κ av m1 = some () ∧ ToldA Try.prog TT (pnT 174) 174 args m av m1 := by
 obtain ⟨bx_, rw_⟩ := m
 unfold c_174 at hh
 simp only at hh
 split at hh
 case h_2 => cases hh
 rename_i b0 b1 b2 b3
 obtain ⟨a0_0, hx0, hh0⟩ := bO_some hh
 obtain ⟨a0_1, hx1, hh1⟩ := bO_some hh0
 obtain ⟨a1_0, hx2, hh2⟩ := bO_some hh1
 obtain ⟨a1_1, hx3, hh3⟩ := bO_some hh2
 have ex0 := asI_some hx0
 have ex1 := asI_some hx1
 have ex2 := asI_some hx2
 have ex3 := asI_some hx3
 subst ex0 ex1 ex2 ex3
 obtain ⟨N, t, h, hκ⟩ := callX_some hh3
 refine ⟨_, _, hκ, told_of_run pq okC_174 (fun _ _ _ => drawA_ok pq okC_174 hmix) (E := E_174) (fn := Try.f174) (body := B_174) (by kernel_rfl) (by kernel_rfl) (by kernel_rfl) (by rfl) (by exact Nat.le_of_ble_eq_true rfl) (fun k hk => ?_)⟩
 refine (w_174 a0_0 a0_1 a1_0 a1_1 k).trans ?_
 replace h : laws_eqPut.f a0_0 a0_1 a1_0 a1_1 = some t := h
 unfold laws_eqPut.f at h
 refine br_etn h rfl (fun c3 h => ?_) (fun c3 h => ?_)
 ·cases h; exact hk
 refine br_itn h rfl (fun c4 h => ?_) (fun c4 h => ?_)
 ·cases h; exact hk
 cases h; exact hk
noncomputable def C_165 : Ctr tau Unit := ctrS 174 c_174 C_174
noncomputable def D_165 : Drw tau := drawA E_165 C_165
theorem okC_165 : CtrOk Try.prog TT pnT C_165 := ctrS_ok okC_174 okc_174
theorem mC_165 : CtrMono C_165 := ctrS_mono mC_174 mc_174
theorem mD_165 : DrMono D_165 := drawA_mono mC_165
noncomputable def B_165 : Code := Try.f165.body.getD .skip
theorem mc_165 (args : List (AV tau)) (m : Mem tau) (k k' : AV tau → Mem tau → Option Unit) (hk : ∀ av m, k av m = some () → k' av m = some ()) (h : c_165 args m k = some ()) : c_165 args m k' = some () := by
 unfold c_165 at h ⊢
 split at h
 · repeat' first | exact callX_mono (fun _ h => hk _ _ h) h | refine bO_mono (fun _ h => ?_) h
 · cases h
noncomputable def K_165_0 (k : AV tau → Mem tau → Option Unit) : Kon tau := (kBlock 0 (kS E_165 C_165 D_165 (codeP B_165 [1, 1, 1]) (kEnd E_165 Try.f165 k)))
def st_165_0 (x0 : (List S82)) (x1 : (List S82)) (x2 : Int) : St tau := ⟨tmL 27 0 [(0, .sl 82 x0), (1, .sl 82 x1), (5, .int .i64 x2)], ⟨[], []⟩⟩
noncomputable def LP_165_0 (k : AV tau → Mem tau → Option Unit) (x0 : (List S82)) (x1 : (List S82)) (x2 : Int) : Option Unit := loopA E_165 (codeA E_165 C_165 D_165 (codeP B_165 [1, 1, 0, 1, 0, 0])) (codeP B_165 [1, 1, 0, 1, 0, 0]) (K_165_0 k) (st_165_0 x0 x1 x2)
theorem w_165_0 (k : AV tau → Mem tau → Option Unit) (x0 : (List S82)) (x1 : (List S82)) (x2 : Int) : codeA E_165 C_165 D_165 (codeP B_165 [1, 1, 0, 1, 0, 0]) (kL E_165 C_165 D_165 (codeP B_165 [1, 1, 0, 1, 0, 0]) (K_165_0 k)) (st_165_0 x0 x1 x2) = (brA (decide (x2 < ((x0.length : Nat) : Int))) (brA (decide ((0 : Int) ≤ x2)) (brA (decide (x2 < ((x0.length : Nat) : Int))) (brA (decide ((0 : Int) ≤ x2)) (brA (decide (x2 < ((x1.length : Nat) : Int))) (callX (fun n => laws_eqPut.f ((rd_T82 x0 x2).f0) ((rd_T82 x0 x2).f1) ((rd_T82 x1 x2).f0) ((rd_T82 x1 x2).f1)) fun t0 => brA (!t0) (k (.bool false) ⟨[], []⟩) (LP_165_0 k x0 x1 (wrap64 (x2 + (1 : Int))))) (none)) (none)) (none)) (none)) (k (.bool true) ⟨[], []⟩) : Option Unit) := by
 simp only [← wrapA_i64]
 kernel_rfl
theorem w_165 (l0 : List S82) (l1 : List S82) (k : AV tau → Mem tau → Option Unit) : fnA E_165 C_165 D_165 Try.f165 B_165 [.sl 82 l0, .sl 82 l1] ⟨[], []⟩ k = (brA (!(decide (((l0.length : Nat) : Int) = ((l1.length : Nat) : Int)))) (k (.bool false) ⟨[], []⟩) (LP_165_0 k l0 l1 (0 : Int)) : Option Unit) := by kernel_rfl
def S_165_0 (N : Nat) : Prop := ∀ (k : AV tau → Mem tau → Option Unit) (x0 : (List S82)) (x1 : (List S82)) (x2 : Int) (r : Bool), laws_eqPutS.l0 N (x0) (x1) (x2) = some r → k (.bool (r)) ⟨[], []⟩ = some () → LP_165_0 k x0 x1 x2 = some ()
theorem L_165 (N : Nat) : S_165_0 N := by
 induction N using Nat.strongRecOn with | _ N0 ih =>
 skip
 intro k x0 x1 x2 r h hk
 rcases N0 with _ | N
 · cases h
 first | rw [laws_eqPutS.l0] at h | simp only [laws_eqPutS.l0] at h | (unfold laws_eqPutS.l0 at h; dsimp only at h)
 refine loop_fold mC_165 mD_165 ?_
 refine (w_165_0 k x0 x1 x2).trans ?_
 refine br_eti h rfl (fun c13 h => ?_) (fun c13 h => ?_)
 ·cases h; exact hk
 refine br_g h rfl (fun c14 h => ?_)
 refine br_t (by first | (simp [c13]; done) | (simp; omega) | (simp only [List.length_append, List.length_cons, List.length_nil, List.length_take, List.length_drop] at c13 ⊢; simp; omega) | (simp only [List.length_append, List.length_cons, List.length_nil, List.length_take, List.length_drop] at c13; simp; omega) | (simp_all; done)) ?_
 refine br_t (by first | (simp [c14]; done) | (simp; omega) | (simp only [List.length_append, List.length_cons, List.length_nil, List.length_take, List.length_drop] at c13 ⊢; simp; omega) | (simp only [List.length_append, List.length_cons, List.length_nil, List.length_take, List.length_drop] at c13; simp; omega) | (simp_all; done)) ?_
 refine br_g h rfl (fun c15 h => ?_)
 refine call_h 0 h (fun t0 e16 h => ?_)
 refine br_etn h (congrArg not dect) (fun c17 h => ?_) (fun c17 h => ?_)
 ·cases h; exact hk
 exact (ih N (by omega)) _ _ _ _ _ h hk
theorem okc_165 (args : List (AV tau)) (m : Mem tau) (κ : AV tau → Mem tau → Option Unit) (hh : c_165 args m κ = some ()) : ∃ av m1, κ av m1 = some () ∧ ToldA Try.prog TT (pnT 165) 165 args m av m1 := by
 obtain ⟨bx_, rw_⟩ := m
 unfold c_165 at hh
 simp only at hh
 split at hh
 case h_2 => cases hh
 rename_i b0 b1
 obtain ⟨l0, hx0, hh0⟩ := bO_some hh
 obtain ⟨l1, hx1, hh1⟩ := bO_some hh0
 have ex0 := asSl_some hx0
 have ex1 := asSl_some hx1
 subst ex0 ex1
 obtain ⟨N, t, h, hκ⟩ := callX_some hh1
 refine ⟨_, _, hκ, told_of_run pq okC_165 (fun _ _ _ => drawA_ok pq okC_165 hmix) (E := E_165) (fn := Try.f165) (body := B_165) (by kernel_rfl) (by kernel_rfl) (by kernel_rfl) (by rfl) (by exact Nat.le_of_ble_eq_true rfl) (fun k hk => ?_)⟩
 refine (w_165 l0 l1 k).trans ?_
 replace h : laws_eqPutS.f N l0 l1 = some t := h
 unfold laws_eqPutS.f at h
 refine br_etn h rfl (fun c18 h => ?_) (fun c18 h => ?_)
 ·cases h; exact hk
 exact (L_165 N) _ _ _ _ _ h hk
noncomputable def C_138 : Ctr tau Unit := ctrS 165 c_165 C_165
noncomputable def D_138 : Drw tau := drawA E_138 C_138
theorem okC_138 : CtrOk Try.prog TT pnT C_138 := ctrS_ok okC_165 okc_165
theorem mC_138 : CtrMono C_138 := ctrS_mono mC_165 mc_165
theorem mD_138 : DrMono D_138 := drawA_mono mC_138
noncomputable def B_138 : Code := Try.f138.body.getD .skip
theorem mc_138 (args : List (AV tau)) (m : Mem tau) (k k' : AV tau → Mem tau → Option Unit) (hk : ∀ av m, k av m = some () → k' av m = some ()) (h : c_138 args m k = some ()) : c_138 args m k' = some () := by
 unfold c_138 at h ⊢
 split at h
 · repeat' first | exact callX_mono (fun _ h => hk _ _ h) h | refine bO_mono (fun _ h => ?_) h
 · cases h
theorem w_138 (l0_0 : List S39) (l0_1 : List S82) (a0_2 : Int) (a0_3 : Int) (l1_0 : List S39) (l1_1 : List S82) (a1_2 : Int) (a1_3 : Int) (k : AV tau → Mem tau → Option Unit) : fnA E_138 C_138 D_138 Try.f138 B_138 [.agg [.sl 39 l0_0, .sl 82 l0_1, .int .i64 a0_2, .int .i64 a0_3], .agg [.sl 39 l1_0, .sl 82 l1_1, .int .i64 a1_2, .int .i64 a1_3]] ⟨[], []⟩ k = (callX (fun n => laws_eqReadS.f n l0_0 l1_0) fun t0 => brA (!t0) (k (.bool false) ⟨[], []⟩) (callX (fun n => laws_eqPutS.f n l0_1 l1_1) fun t1 => brA (!t1) (k (.bool false) ⟨[], []⟩) (brA (!(decide (a0_2 = a1_2))) (k (.bool false) ⟨[], []⟩) (brA (!(decide (a0_3 = a1_3))) (k (.bool false) ⟨[], []⟩) (k (.bool true) ⟨[], []⟩)))) : Option Unit) := by kernel_rfl
theorem okc_138 (args : List (AV tau)) (m : Mem tau) (κ : AV tau → Mem tau → Option Unit) (hh : c_138 args m κ = some ()) : ∃ av m1, κ av m1 = some () ∧ ToldA Try.prog TT (pnT 138) 138 args m av m1 := by
 obtain ⟨bx_, rw_⟩ := m
 unfold c_138 at hh
 simp only at hh
 split at hh
 case h_2 => cases hh
 rename_i b0 b1 b2 b3 b4 b5 b6 b7
 obtain ⟨l0_0, hx0, hh0⟩ := bO_some hh
 obtain ⟨l0_1, hx1, hh1⟩ := bO_some hh0
 obtain ⟨a0_2, hx2, hh2⟩ := bO_some hh1
 obtain ⟨a0_3, hx3, hh3⟩ := bO_some hh2
 obtain ⟨l1_0, hx4, hh4⟩ := bO_some hh3
 obtain ⟨l1_1, hx5, hh5⟩ := bO_some hh4
 obtain ⟨a1_2, hx6, hh6⟩ := bO_some hh5
 obtain ⟨a1_3, hx7, hh7⟩ := bO_some hh6
 have ex0 := asSl_some hx0
 have ex1 := asSl_some hx1
 have ex2 := asI_some hx2
 have ex3 := asI_some hx3
 have ex4 := asSl_some hx4
 have ex5 := asSl_some hx5
 have ex6 := asI_some hx6
 have ex7 := asI_some hx7
 subst ex0 ex1 ex2 ex3 ex4 ex5 ex6 ex7
 obtain ⟨N, t, h, hκ⟩ := callX_some hh7
 refine ⟨_, _, hκ, told_of_run pq okC_138 (fun _ _ _ => drawA_ok pq okC_138 hmix) (E := E_138) (fn := Try.f138) (body := B_138) (by kernel_rfl) (by kernel_rfl) (by kernel_rfl) (by rfl) (by exact Nat.le_of_ble_eq_true rfl) (fun k hk => ?_)⟩
 refine (w_138 l0_0 l0_1 a0_2 a0_3 l1_0 l1_1 a1_2 a1_3 k).trans ?_
 replace h : laws_eqRun.f N l0_0 l0_1 a0_2 a0_3 l1_0 l1_1 a1_2 a1_3 = some t := h
 unfold laws_eqRun.f at h
 refine call_h N h (fun t0 e7 h => ?_)
 refine br_etn h (congrArg not dect) (fun c8 h => ?_) (fun c8 h => ?_)
 ·cases h; exact hk
 refine call_h N h (fun t1 e9 h => ?_)
 refine br_etn h (congrArg not dect) (fun c10 h => ?_) (fun c10 h => ?_)
 ·cases h; exact hk
 refine br_etn h rfl (fun c11 h => ?_) (fun c11 h => ?_)
 ·cases h; exact hk
 refine br_itn h rfl (fun c12 h => ?_) (fun c12 h => ?_)
 ·cases h; exact hk
 cases h; exact hk
noncomputable def C_69 : Ctr tau Unit := ctrS 138 c_138 C_138
noncomputable def D_69 : Drw tau := drawA E_69 C_69
theorem okC_69 : CtrOk Try.prog TT pnT C_69 := ctrS_ok okC_138 okc_138
theorem mC_69 : CtrMono C_69 := ctrS_mono mC_138 mc_138
theorem mD_69 : DrMono D_69 := drawA_mono mC_69
noncomputable def B_69 : Code := Try.f69.body.getD .skip
theorem mc_69 (args : List (AV tau)) (m : Mem tau) (k k' : AV tau → Mem tau → Option Unit) (hk : ∀ av m, k av m = some () → k' av m = some ()) (h : c_69 args m k = some ()) : c_69 args m k' = some () := by
 unfold c_69 at h ⊢
 split at h
 · repeat' first | exact callX_mono (fun _ h => hk _ _ h) h | refine bO_mono (fun _ h => ?_) h
 · cases h
theorem w_69 (a0_0 : Bool) (a0_1 : Int) (a0_2 : Int) (l0_3 : List S39) (l0_4 : List S82) (a0_5 : Int) (a0_6 : Int) (a1_0 : Bool) (a1_1 : Int) (a1_2 : Int) (l1_3 : List S39) (l1_4 : List S82) (a1_5 : Int) (a1_6 : Int) (k : AV tau → Mem tau → Option Unit) : fnA E_69 C_69 D_69 Try.f69 B_69 [.agg [.bool a0_0, .int .i64 a0_1, .int .i64 a0_2, .sl 39 l0_3, .sl 82 l0_4, .int .i64 a0_5, .int .i64 a0_6], .agg [.bool a1_0, .int .i64 a1_1, .int .i64 a1_2, .sl 39 l1_3, .sl 82 l1_4, .int .i64 a1_5, .int .i64 a1_6]] ⟨[], []⟩ k = (brA (!(a0_0 == a1_0)) (k (.bool false) ⟨[], []⟩) (callX (fun n => laws_eqReq.f a0_1 a0_2 a1_1 a1_2) fun t0 => brA (!t0) (k (.bool false) ⟨[], []⟩) (callX (fun n => laws_eqRun.f n l0_3 l0_4 a0_5 a0_6 l1_3 l1_4 a1_5 a1_6) fun t1 => brA (!t1) (k (.bool false) ⟨[], []⟩) (k (.bool true) ⟨[], []⟩))) : Option Unit) := by kernel_rfl
theorem okc_69 (args : List (AV tau)) (m : Mem tau) (κ : AV tau → Mem tau → Option Unit) (hh : c_69 args m κ = some ()) : ∃ av m1, κ av m1 = some () ∧ ToldA Try.prog TT (pnT 69) 69 args m av m1 := by
 obtain ⟨bx_, rw_⟩ := m
 unfold c_69 at hh
 simp only at hh
 split at hh
 case h_2 => cases hh
 rename_i b0 b1 b2 b3 b4 b5 b6 b7 b8 b9 b10 b11 b12 b13
 obtain ⟨a0_0, hx0, hh0⟩ := bO_some hh
 obtain ⟨a0_1, hx1, hh1⟩ := bO_some hh0
 obtain ⟨a0_2, hx2, hh2⟩ := bO_some hh1
 obtain ⟨l0_3, hx3, hh3⟩ := bO_some hh2
 obtain ⟨l0_4, hx4, hh4⟩ := bO_some hh3
 obtain ⟨a0_5, hx5, hh5⟩ := bO_some hh4
 obtain ⟨a0_6, hx6, hh6⟩ := bO_some hh5
 obtain ⟨a1_0, hx7, hh7⟩ := bO_some hh6
 obtain ⟨a1_1, hx8, hh8⟩ := bO_some hh7
 obtain ⟨a1_2, hx9, hh9⟩ := bO_some hh8
 obtain ⟨l1_3, hx10, hh10⟩ := bO_some hh9
 obtain ⟨l1_4, hx11, hh11⟩ := bO_some hh10
 obtain ⟨a1_5, hx12, hh12⟩ := bO_some hh11
 obtain ⟨a1_6, hx13, hh13⟩ := bO_some hh12
 have ex0 := asB_some hx0
 have ex1 := asI_some hx1
 have ex2 := asI_some hx2
 have ex3 := asSl_some hx3
 have ex4 := asSl_some hx4
 have ex5 := asI_some hx5
 have ex6 := asI_some hx6
 have ex7 := asB_some hx7
 have ex8 := asI_some hx8
 have ex9 := asI_some hx9
 have ex10 := asSl_some hx10
 have ex11 := asSl_some hx11
 have ex12 := asI_some hx12
 have ex13 := asI_some hx13
 subst ex0 ex1 ex2 ex3 ex4 ex5 ex6 ex7 ex8 ex9 ex10 ex11 ex12 ex13
 obtain ⟨N, t, h, hκ⟩ := callX_some hh13
 refine ⟨_, _, hκ, told_of_run pq okC_69 (fun _ _ _ => drawA_ok pq okC_69 hmix) (E := E_69) (fn := Try.f69) (body := B_69) (by kernel_rfl) (by kernel_rfl) (by kernel_rfl) (by rfl) (by exact Nat.le_of_ble_eq_true rfl) (fun k hk => ?_)⟩
 refine (w_69 a0_0 a0_1 a0_2 l0_3 l0_4 a0_5 a0_6 a1_0 a1_1 a1_2 l1_3 l1_4 a1_5 a1_6 k).trans ?_
 replace h : laws_eqEntry.f N a0_0 a0_1 a0_2 l0_3 l0_4 a0_5 a0_6 a1_0 a1_1 a1_2 l1_3 l1_4 a1_5 a1_6 = some t := h
 unfold laws_eqEntry.f at h
 refine br_ite h (by first | rfl | exact dect | exact (congrArg not dect) | (simp; done) | (simp [beqI]; done) | (simp; omega)) (fun c6 h => ?_) (fun c6 h => ?_)
 ·cases h; exact hk
 refine call_h 0 h (fun t0 e7 h => ?_)
 refine br_etn h (congrArg not dect) (fun c8 h => ?_) (fun c8 h => ?_)
 ·cases h; exact hk
 refine call_h N h (fun t1 e9 h => ?_)
 refine br_itn h (congrArg not dect) (fun c10 h => ?_) (fun c10 h => ?_)
 ·cases h; exact hk
 cases h; exact hk
noncomputable def C_75 : Ctr tau Unit := ctrS 69 c_69 C_69
noncomputable def D_75 : Drw tau := drawA E_75 C_75
theorem okC_75 : CtrOk Try.prog TT pnT C_75 := ctrS_ok okC_69 okc_69
theorem mC_75 : CtrMono C_75 := ctrS_mono mC_69 mc_69
theorem mD_75 : DrMono D_75 := drawA_mono mC_75
noncomputable def B_75 : Code := Try.f75.body.getD .skip
theorem mc_75 (args : List (AV tau)) (m : Mem tau) (k k' : AV tau → Mem tau → Option Unit) (hk : ∀ av m, k av m = some () → k' av m = some ()) (h : c_75 args m k = some ()) : c_75 args m k' = some () := by
 unfold c_75 at h ⊢
 split at h
 · repeat' first | exact callX_mono (fun _ h => hk _ _ h) h | refine bO_mono (fun _ h => ?_) h
 · cases h
noncomputable def K_75_0 (k : AV tau → Mem tau → Option Unit) : Kon tau := (kBlock 0 (kS E_75 C_75 D_75 (codeP B_75 [1, 1, 1]) (kEnd E_75 Try.f75 k)))
def st_75_0 (x0 : (List S77)) (x1 : (List S77)) (x2 : Int) : St tau := ⟨tmL 27 0 [(0, .sl 77 x0), (1, .sl 77 x1), (5, .int .i64 x2)], ⟨[], []⟩⟩
noncomputable def LP_75_0 (k : AV tau → Mem tau → Option Unit) (x0 : (List S77)) (x1 : (List S77)) (x2 : Int) : Option Unit := loopA E_75 (codeA E_75 C_75 D_75 (codeP B_75 [1, 1, 0, 1, 0, 0])) (codeP B_75 [1, 1, 0, 1, 0, 0]) (K_75_0 k) (st_75_0 x0 x1 x2)
theorem w_75_0 (k : AV tau → Mem tau → Option Unit) (x0 : (List S77)) (x1 : (List S77)) (x2 : Int) : codeA E_75 C_75 D_75 (codeP B_75 [1, 1, 0, 1, 0, 0]) (kL E_75 C_75 D_75 (codeP B_75 [1, 1, 0, 1, 0, 0]) (K_75_0 k)) (st_75_0 x0 x1 x2) = (brA (decide (x2 < ((x0.length : Nat) : Int))) (brA (decide ((0 : Int) ≤ x2)) (brA (decide (x2 < ((x0.length : Nat) : Int))) (brA (decide ((0 : Int) ≤ x2)) (brA (decide (x2 < ((x1.length : Nat) : Int))) (callX (fun n => laws_eqEntry.f n ((rd_T77 x0 x2).f0) (((rd_T77 x0 x2).f1).f0) (((rd_T77 x0 x2).f1).f1) (((rd_T77 x0 x2).f2).f0) (((rd_T77 x0 x2).f2).f1) (((rd_T77 x0 x2).f2).f2) (((rd_T77 x0 x2).f2).f3) ((rd_T77 x1 x2).f0) (((rd_T77 x1 x2).f1).f0) (((rd_T77 x1 x2).f1).f1) (((rd_T77 x1 x2).f2).f0) (((rd_T77 x1 x2).f2).f1) (((rd_T77 x1 x2).f2).f2) (((rd_T77 x1 x2).f2).f3)) fun t0 => brA (!t0) (k (.bool false) ⟨[], []⟩) (LP_75_0 k x0 x1 (wrap64 (x2 + (1 : Int))))) (none)) (none)) (none)) (none)) (k (.bool true) ⟨[], []⟩) : Option Unit) := by
 simp only [← wrapA_i64]
 kernel_rfl
theorem w_75 (l0 : List S77) (l1 : List S77) (k : AV tau → Mem tau → Option Unit) : fnA E_75 C_75 D_75 Try.f75 B_75 [.sl 77 l0, .sl 77 l1] ⟨[], []⟩ k = (brA (!(decide (((l0.length : Nat) : Int) = ((l1.length : Nat) : Int)))) (k (.bool false) ⟨[], []⟩) (LP_75_0 k l0 l1 (0 : Int)) : Option Unit) := by kernel_rfl
def S_75_0 (N : Nat) : Prop := ∀ (k : AV tau → Mem tau → Option Unit) (x0 : (List S77)) (x1 : (List S77)) (x2 : Int) (r : Bool), laws_eqEntryS.l0 N (x0) (x1) (x2) = some r → k (.bool (r)) ⟨[], []⟩ = some () → LP_75_0 k x0 x1 x2 = some ()
theorem L_75 (N : Nat) : S_75_0 N := by
 induction N using Nat.strongRecOn with | _ N0 ih =>
 skip
 intro k x0 x1 x2 r h hk
 rcases N0 with _ | N
 · cases h
 first | rw [laws_eqEntryS.l0] at h | simp only [laws_eqEntryS.l0] at h | (unfold laws_eqEntryS.l0 at h; dsimp only at h)
 refine loop_fold mC_75 mD_75 ?_
 refine (w_75_0 k x0 x1 x2).trans ?_
 refine br_eti h rfl (fun c13 h => ?_) (fun c13 h => ?_)
 ·cases h; exact hk
 refine br_g h rfl (fun c14 h => ?_)
 refine br_t (by first | (simp [c13]; done) | (simp; omega) | (simp only [List.length_append, List.length_cons, List.length_nil, List.length_take, List.length_drop] at c13 ⊢; simp; omega) | (simp only [List.length_append, List.length_cons, List.length_nil, List.length_take, List.length_drop] at c13; simp; omega) | (simp_all; done)) ?_
 refine br_t (by first | (simp [c14]; done) | (simp; omega) | (simp only [List.length_append, List.length_cons, List.length_nil, List.length_take, List.length_drop] at c13 ⊢; simp; omega) | (simp only [List.length_append, List.length_cons, List.length_nil, List.length_take, List.length_drop] at c13; simp; omega) | (simp_all; done)) ?_
 refine br_g h rfl (fun c15 h => ?_)
 refine call_h N h (fun t0 e16 h => ?_)
 refine br_etn h (congrArg not dect) (fun c17 h => ?_) (fun c17 h => ?_)
 ·cases h; exact hk
 exact (ih N (by omega)) _ _ _ _ _ h hk
theorem okc_75 (args : List (AV tau)) (m : Mem tau) (κ : AV tau → Mem tau → Option Unit) (hh : c_75 args m κ = some ()) : ∃ av m1, κ av m1 = some () ∧ ToldA Try.prog TT (pnT 75) 75 args m av m1 := by
 obtain ⟨bx_, rw_⟩ := m
 unfold c_75 at hh
 simp only at hh
 split at hh
 case h_2 => cases hh
 rename_i b0 b1
 obtain ⟨l0, hx0, hh0⟩ := bO_some hh
 obtain ⟨l1, hx1, hh1⟩ := bO_some hh0
 have ex0 := asSl_some hx0
 have ex1 := asSl_some hx1
 subst ex0 ex1
 obtain ⟨N, t, h, hκ⟩ := callX_some hh1
 refine ⟨_, _, hκ, told_of_run pq okC_75 (fun _ _ _ => drawA_ok pq okC_75 hmix) (E := E_75) (fn := Try.f75) (body := B_75) (by kernel_rfl) (by kernel_rfl) (by kernel_rfl) (by rfl) (by exact Nat.le_of_ble_eq_true rfl) (fun k hk => ?_)⟩
 refine (w_75 l0 l1 k).trans ?_
 replace h : laws_eqEntryS.f N l0 l1 = some t := h
 unfold laws_eqEntryS.f at h
 refine br_etn h rfl (fun c18 h => ?_) (fun c18 h => ?_)
 ·cases h; exact hk
 exact (L_75 N) _ _ _ _ _ h hk
noncomputable def C_142 : Ctr tau Unit := ctrS 75 c_75 C_75
noncomputable def D_142 : Drw tau := drawA E_142 C_142
theorem okC_142 : CtrOk Try.prog TT pnT C_142 := ctrS_ok okC_75 okc_75
theorem mC_142 : CtrMono C_142 := ctrS_mono mC_75 mc_75
theorem mD_142 : DrMono D_142 := drawA_mono mC_142
noncomputable def B_142 : Code := Try.f142.body.getD .skip
theorem mc_142 (args : List (AV tau)) (m : Mem tau) (k k' : AV tau → Mem tau → Option Unit) (hk : ∀ av m, k av m = some () → k' av m = some ()) (h : c_142 args m k = some ()) : c_142 args m k' = some () := by
 unfold c_142 at h ⊢
 split at h
 · repeat' first | exact callX_mono (fun _ h => hk _ _ h) h | refine bO_mono (fun _ h => ?_) h
 · cases h
noncomputable def K_142_0 (k : AV tau → Mem tau → Option Unit) : Kon tau := (kBlock 0 (kS E_142 C_142 D_142 (codeP B_142 [1, 1]) (kEnd E_142 Try.f142 k)))
def st_142_0 (x0 : Int) (x1 : Int) (x2 : (List S39)) : St tau := ⟨tmL 27 0 [(0, .own 0 0), (1, .int .i64 x0), (5, .int .i64 x1)], ⟨[], [some ⟨39, x2, 0⟩]⟩⟩
noncomputable def LP_142_0 (k : AV tau → Mem tau → Option Unit) (x0 : Int) (x1 : Int) (x2 : (List S39)) : Option Unit := loopA E_142 (codeA E_142 C_142 D_142 (codeP B_142 [1, 0, 1, 0, 0])) (codeP B_142 [1, 0, 1, 0, 0]) (K_142_0 k) (st_142_0 x0 x1 x2)
theorem w_142_0 (k : AV tau → Mem tau → Option Unit) (x0 : Int) (x1 : Int) (x2 : (List S39)) : codeA E_142 C_142 D_142 (codeP B_142 [1, 0, 1, 0, 0]) (kL E_142 C_142 D_142 (codeP B_142 [1, 0, 1, 0, 0]) (K_142_0 k)) (st_142_0 x0 x1 x2) = (brA (decide (x1 < ((x2.length : Nat) : Int))) (brA (decide ((0 : Int) ≤ x1)) (brA (decide (x1 < ((x2.length : Nat) : Int))) (brA (decide ((0 : Int) ≤ x1)) (brA (decide (x1 < (((List.set x2 (Int.toNat x1) (⟨x0, (rd_T39 x2 x1).f1⟩ : S39)).length : Nat) : Int))) (LP_142_0 k (wrap64 ((wrap64 (x0 + (1 : Int))) + (1 : Int))) (wrap64 (x1 + (1 : Int))) (List.set (List.set x2 (Int.toNat x1) (⟨x0, (rd_T39 x2 x1).f1⟩ : S39)) (Int.toNat x1) (⟨(rd_T39 (List.set x2 (Int.toNat x1) (⟨x0, (rd_T39 x2 x1).f1⟩ : S39)) x1).f0, (wrap64 (x0 + (1 : Int)))⟩ : S39))) (none)) (none)) (none)) (none)) (k (.int .i64 x0) ⟨[], [some ⟨39, x2, 0⟩]⟩) : Option Unit) := by
 simp only [← wrapA_i64]
 kernel_rfl
theorem w_142 (l0 : List S39) (a1 : Int) (k : AV tau → Mem tau → Option Unit) : fnA E_142 C_142 D_142 Try.f142 B_142 [.own 0 0, .int .i64 a1] ⟨[], [some ⟨39, l0, 0⟩]⟩ k = (LP_142_0 k a1 (0 : Int) l0 : Option Unit) := by kernel_rfl
def S_142_0 (N : Nat) : Prop := ∀ (k : AV tau → Mem tau → Option Unit) (x0 : Int) (x1 : Int) (x2 : (List S39)) (r : Int × (List (S39))), laws_markReadS.l0 N (x2) (x0) (x1) = some r → k (.int .i64 (r.1)) ⟨[], [some ⟨39, r.2, 0⟩]⟩ = some () → LP_142_0 k x0 x1 x2 = some ()
theorem L_142 (N : Nat) : S_142_0 N := by
 induction N using Nat.strongRecOn with | _ N0 ih =>
 skip
 intro k x0 x1 x2 r h hk
 rcases N0 with _ | N
 · cases h
 first | rw [laws_markReadS.l0] at h | simp only [laws_markReadS.l0] at h | (unfold laws_markReadS.l0 at h; dsimp only at h)
 refine loop_fold mC_142 mD_142 ?_
 refine (w_142_0 k x0 x1 x2).trans ?_
 refine br_eti h rfl (fun c5 h => ?_) (fun c5 h => ?_)
 ·cases h; exact hk
 refine br_g h rfl (fun c6 h => ?_)
 replace h := let_h h
 refine br_t (by first | (simp [c5]; done) | (simp; omega) | (simp only [List.length_append, List.length_cons, List.length_nil, List.length_take, List.length_drop] at c5 ⊢; simp; omega) | (simp only [List.length_append, List.length_cons, List.length_nil, List.length_take, List.length_drop] at c5; simp; omega) | (simp_all; done)) ?_
 refine br_t (by first | (simp [c6]; done) | (simp; omega) | (simp only [List.length_append, List.length_cons, List.length_nil, List.length_take, List.length_drop] at c5 ⊢; simp; omega) | (simp only [List.length_append, List.length_cons, List.length_nil, List.length_take, List.length_drop] at c5; simp; omega) | (simp_all; done)) ?_
 refine br_t (by first | (simp; omega) | (simp only [List.length_append, List.length_cons, List.length_nil, List.length_take, List.length_drop] at c5 ⊢; simp; omega) | (simp only [List.length_append, List.length_cons, List.length_nil, List.length_take, List.length_drop] at c5; simp; omega)) ?_
 exact (ih N (by omega)) _ _ _ _ _ h hk
theorem okc_142 (args : List (AV tau)) (m : Mem tau) (κ : AV tau → Mem tau → Option Unit) (hh : c_142 args m κ = some ()) : ∃ av m1, κ av m1 = some () ∧ ToldA Try.prog TT (pnT 142) 142 args m av m1 := by
 obtain ⟨bx_, rw_⟩ := m
 unfold c_142 at hh
 simp only at hh
 split at hh
 case h_2 => cases hh
 rename_i b0 b1 r0
 obtain ⟨u7, hx0, hh0⟩ := bO_some hh
 obtain ⟨l0, hx1, hh1⟩ := bO_some hh0
 obtain ⟨a1, hx2, hh2⟩ := bO_some hh1
 have ex0 := asOwn_some hx0
 have ex1 := asRow_some hx1
 have ex2 := asI_some hx2
 subst ex0 ex1 ex2
 obtain ⟨N, t, h, hκ⟩ := callX_some hh2
 refine ⟨_, _, hκ, told_of_run pq okC_142 (fun _ _ _ => drawA_ok pq okC_142 hmix) (E := E_142) (fn := Try.f142) (body := B_142) (by kernel_rfl) (by kernel_rfl) (by kernel_rfl) (by rfl) (by exact Nat.le_of_ble_eq_true rfl) (fun k hk => ?_)⟩
 refine (w_142 l0 a1 k).trans ?_
 replace h : laws_markReadS.f N l0 a1 = some t := h
 unfold laws_markReadS.f at h
 exact (L_142 N) _ _ _ _ _ h hk
noncomputable def C_143 : Ctr tau Unit := ctrS 142 c_142 C_142
noncomputable def D_143 : Drw tau := drawA E_143 C_143
theorem okC_143 : CtrOk Try.prog TT pnT C_143 := ctrS_ok okC_142 okc_142
theorem mC_143 : CtrMono C_143 := ctrS_mono mC_142 mc_142
theorem mD_143 : DrMono D_143 := drawA_mono mC_143
noncomputable def B_143 : Code := Try.f143.body.getD .skip
theorem mc_143 (args : List (AV tau)) (m : Mem tau) (k k' : AV tau → Mem tau → Option Unit) (hk : ∀ av m, k av m = some () → k' av m = some ()) (h : c_143 args m k = some ()) : c_143 args m k' = some () := by
 unfold c_143 at h ⊢
 split at h
 · repeat' first | exact callX_mono (fun _ h => hk _ _ h) h | refine bO_mono (fun _ h => ?_) h
 · cases h
noncomputable def K_143_0 (k : AV tau → Mem tau → Option Unit) : Kon tau := (kBlock 0 (kS E_143 C_143 D_143 (codeP B_143 [1, 1]) (kEnd E_143 Try.f143 k)))
def st_143_0 (x0 : Int) (x1 : Int) (x2 : (List S82)) : St tau := ⟨tmL 27 0 [(0, .own 0 0), (1, .int .i64 x0), (5, .int .i64 x1)], ⟨[], [some ⟨82, x2, 0⟩]⟩⟩
noncomputable def LP_143_0 (k : AV tau → Mem tau → Option Unit) (x0 : Int) (x1 : Int) (x2 : (List S82)) : Option Unit := loopA E_143 (codeA E_143 C_143 D_143 (codeP B_143 [1, 0, 1, 0, 0])) (codeP B_143 [1, 0, 1, 0, 0]) (K_143_0 k) (st_143_0 x0 x1 x2)
theorem w_143_0 (k : AV tau → Mem tau → Option Unit) (x0 : Int) (x1 : Int) (x2 : (List S82)) : codeA E_143 C_143 D_143 (codeP B_143 [1, 0, 1, 0, 0]) (kL E_143 C_143 D_143 (codeP B_143 [1, 0, 1, 0, 0]) (K_143_0 k)) (st_143_0 x0 x1 x2) = (brA (decide (x1 < ((x2.length : Nat) : Int))) (brA (decide ((0 : Int) ≤ x1)) (brA (decide (x1 < ((x2.length : Nat) : Int))) (brA (decide ((0 : Int) ≤ x1)) (brA (decide (x1 < (((List.set x2 (Int.toNat x1) (⟨x0, (rd_T82 x2 x1).f1⟩ : S82)).length : Nat) : Int))) (LP_143_0 k (wrap64 ((wrap64 (x0 + (1 : Int))) + (1 : Int))) (wrap64 (x1 + (1 : Int))) (List.set (List.set x2 (Int.toNat x1) (⟨x0, (rd_T82 x2 x1).f1⟩ : S82)) (Int.toNat x1) (⟨(rd_T82 (List.set x2 (Int.toNat x1) (⟨x0, (rd_T82 x2 x1).f1⟩ : S82)) x1).f0, (wrap64 (x0 + (1 : Int)))⟩ : S82))) (none)) (none)) (none)) (none)) (k (.int .i64 x0) ⟨[], [some ⟨82, x2, 0⟩]⟩) : Option Unit) := by
 simp only [← wrapA_i64]
 kernel_rfl
theorem w_143 (l0 : List S82) (a1 : Int) (k : AV tau → Mem tau → Option Unit) : fnA E_143 C_143 D_143 Try.f143 B_143 [.own 0 0, .int .i64 a1] ⟨[], [some ⟨82, l0, 0⟩]⟩ k = (LP_143_0 k a1 (0 : Int) l0 : Option Unit) := by kernel_rfl
def S_143_0 (N : Nat) : Prop := ∀ (k : AV tau → Mem tau → Option Unit) (x0 : Int) (x1 : Int) (x2 : (List S82)) (r : Int × (List (S82))), laws_markPutS.l0 N (x2) (x0) (x1) = some r → k (.int .i64 (r.1)) ⟨[], [some ⟨82, r.2, 0⟩]⟩ = some () → LP_143_0 k x0 x1 x2 = some ()
theorem L_143 (N : Nat) : S_143_0 N := by
 induction N using Nat.strongRecOn with | _ N0 ih =>
 skip
 intro k x0 x1 x2 r h hk
 rcases N0 with _ | N
 · cases h
 first | rw [laws_markPutS.l0] at h | simp only [laws_markPutS.l0] at h | (unfold laws_markPutS.l0 at h; dsimp only at h)
 refine loop_fold mC_143 mD_143 ?_
 refine (w_143_0 k x0 x1 x2).trans ?_
 refine br_eti h rfl (fun c5 h => ?_) (fun c5 h => ?_)
 ·cases h; exact hk
 refine br_g h rfl (fun c6 h => ?_)
 replace h := let_h h
 refine br_t (by first | (simp [c5]; done) | (simp; omega) | (simp only [List.length_append, List.length_cons, List.length_nil, List.length_take, List.length_drop] at c5 ⊢; simp; omega) | (simp only [List.length_append, List.length_cons, List.length_nil, List.length_take, List.length_drop] at c5; simp; omega) | (simp_all; done)) ?_
 refine br_t (by first | (simp [c6]; done) | (simp; omega) | (simp only [List.length_append, List.length_cons, List.length_nil, List.length_take, List.length_drop] at c5 ⊢; simp; omega) | (simp only [List.length_append, List.length_cons, List.length_nil, List.length_take, List.length_drop] at c5; simp; omega) | (simp_all; done)) ?_
 refine br_t (by first | (simp; omega) | (simp only [List.length_append, List.length_cons, List.length_nil, List.length_take, List.length_drop] at c5 ⊢; simp; omega) | (simp only [List.length_append, List.length_cons, List.length_nil, List.length_take, List.length_drop] at c5; simp; omega)) ?_
 exact (ih N (by omega)) _ _ _ _ _ h hk
theorem okc_143 (args : List (AV tau)) (m : Mem tau) (κ : AV tau → Mem tau → Option Unit) (hh : c_143 args m κ = some ()) : ∃ av m1, κ av m1 = some () ∧ ToldA Try.prog TT (pnT 143) 143 args m av m1 := by
 obtain ⟨bx_, rw_⟩ := m
 unfold c_143 at hh
 simp only at hh
 split at hh
 case h_2 => cases hh
 rename_i b0 b1 r0
 obtain ⟨u7, hx0, hh0⟩ := bO_some hh
 obtain ⟨l0, hx1, hh1⟩ := bO_some hh0
 obtain ⟨a1, hx2, hh2⟩ := bO_some hh1
 have ex0 := asOwn_some hx0
 have ex1 := asRow_some hx1
 have ex2 := asI_some hx2
 subst ex0 ex1 ex2
 obtain ⟨N, t, h, hκ⟩ := callX_some hh2
 refine ⟨_, _, hκ, told_of_run pq okC_143 (fun _ _ _ => drawA_ok pq okC_143 hmix) (E := E_143) (fn := Try.f143) (body := B_143) (by kernel_rfl) (by kernel_rfl) (by kernel_rfl) (by rfl) (by exact Nat.le_of_ble_eq_true rfl) (fun k hk => ?_)⟩
 refine (w_143 l0 a1 k).trans ?_
 replace h : laws_markPutS.f N l0 a1 = some t := h
 unfold laws_markPutS.f at h
 exact (L_143 N) _ _ _ _ _ h hk
end Go.Proofs.Ytkkmhlfpombgfaa.PFnExactCertFold