/- The machine's texts of FnExactSerialAll (links). Conditions: none. -/
import Derived.Test.YtkkmhlfpombgfaaPFnExactSerialAllx1
set_option linter.unusedVariables false
set_option linter.unusedSimpArgs false
set_option maxRecDepth 100000
set_option maxHeartbeats 4000000
namespace Go.Proofs.Ytkkmhlfpombgfaa.PFnExactSerialAll
open Go.RowKit Go.Proofs.YtkkmhlfpombgfaaW.PrintWords Go.Proofs.YtkkmhlfpombgfaaW.PrintLast Go.Proofs.YtkkmhlfpombgfaaW.PrintMore
open Go Go.Proofs Am
noncomputable def C_24 : Ctr tau Unit := ctr0
noncomputable def D_24 : Drw tau := drawA E_24 C_24
theorem okC_24 : CtrOk Try.prog TT pnT C_24 := ctr0_ok
theorem mC_24 : CtrMono C_24 := ctr0_mono
theorem mD_24 : DrMono D_24 := drawA_mono mC_24
noncomputable def B_24 : Code := Try.f24.body.getD .skip
theorem mc_24 (args : List (AV tau)) (m : Mem tau) (k k' : AV tau → Mem tau → Option Unit) (hk : ∀ av m, k av m = some () → k' av m = some ()) (h : c_24 args m k = some ()) : c_24 args m k' = some () := by
 unfold c_24 at h ⊢
 split at h
 · repeat' first | exact callX_mono (fun _ h => hk _ _ h) h | refine bO_mono (fun _ h => ?_) h
 · cases h
theorem w_24 (l0 : List S136) (a1 : Int) (k : AV tau → Mem tau → Option Unit) : fnA E_24 C_24 D_24 Try.f24 B_24 [.sl 136 l0, .int .i64 a1] ⟨[], []⟩ k = (brA (decide ((wrap64 (a1 - ((l0.length : Nat) : Int))) < (0 : Int))) (k (.int .i64 (-(1 : Int))) ⟨[], []⟩) (k (.int .i64 (wrap64 (a1 - ((l0.length : Nat) : Int)))) ⟨[], []⟩) : Option Unit) := by
 simp only [← wrapA_i64]
 kernel_rfl
theorem okc_24 (args : List (AV tau)) (m : Mem tau) (κ : AV tau → Mem tau → Option Unit) (hh : c_24 args m κ = some ()) : ∃ av m1, κ av m1 = some () ∧ ToldA Try.prog TT (pnT 24) 24 args m av m1 := by
 obtain ⟨bx_, rw_⟩ := m
 unfold c_24 at hh
 simp only at hh
 split at hh
 case h_2 => cases hh
 rename_i b0 b1
 obtain ⟨l0, hx0, hh0⟩ := bO_some hh
 obtain ⟨a1, hx1, hh1⟩ := bO_some hh0
 have ex0 := asSl_some hx0
 have ex1 := asI_some hx1
 subst ex0 ex1
 obtain ⟨N, t, h, hκ⟩ := callX_some hh1
 refine ⟨_, _, hκ, told_of_run pq okC_24 (fun _ _ _ => drawA_ok pq okC_24 hmix) (E := E_24) (fn := Try.f24) (body := B_24) (by kernel_rfl) (by kernel_rfl) (by kernel_rfl) (by rfl) (by exact Nat.le_of_ble_eq_true rfl) (fun k hk => ?_)⟩
 refine (w_24 l0 a1 k).trans ?_
 replace h : laws_szBoxS.f l0 a1 = some t := h
 unfold laws_szBoxS.f at h
 refine br_ite h rfl (fun c2 h => ?_) (fun c2 h => ?_)
 ·cases h; exact hk
 cases h; exact hk
noncomputable def C_88 : Ctr tau Unit := ctrS 24 c_24 C_24
noncomputable def D_88 : Drw tau := drawA E_88 C_88
theorem okC_88 : CtrOk Try.prog TT pnT C_88 := ctrS_ok okC_24 okc_24
theorem mC_88 : CtrMono C_88 := ctrS_mono mC_24 mc_24
theorem mD_88 : DrMono D_88 := drawA_mono mC_88
noncomputable def B_88 : Code := Try.f88.body.getD .skip
theorem mc_88 (args : List (AV tau)) (m : Mem tau) (k k' : AV tau → Mem tau → Option Unit) (hk : ∀ av m, k av m = some () → k' av m = some ()) (h : c_88 args m k = some ()) : c_88 args m k' = some () := by
 unfold c_88 at h ⊢
 split at h
 · repeat' first | exact callX_mono (fun _ h => hk _ _ h) h | refine bO_mono (fun _ h => ?_) h
 · cases h
theorem w_88 (l0 : List S175) (a1 : Int) (k : AV tau → Mem tau → Option Unit) : fnA E_88 C_88 D_88 Try.f88 B_88 [.sl 175 l0, .int .i64 a1] ⟨[], []⟩ k = (brA (decide ((wrap64 (a1 - ((l0.length : Nat) : Int))) < (0 : Int))) (k (.int .i64 (-(1 : Int))) ⟨[], []⟩) (k (.int .i64 (wrap64 (a1 - ((l0.length : Nat) : Int)))) ⟨[], []⟩) : Option Unit) := by
 simp only [← wrapA_i64]
 kernel_rfl
theorem okc_88 (args : List (AV tau)) (m : Mem tau) (κ : AV tau → Mem tau → Option Unit) (hh : c_88 args m κ = some ()) : ∃ av m1, κ av m1 = some () ∧ ToldA Try.prog TT (pnT 88) 88 args m av m1 := by
 obtain ⟨bx_, rw_⟩ := m
 unfold c_88 at hh
 simp only at hh
 split at hh
 case h_2 => cases hh
 rename_i b0 b1
 obtain ⟨l0, hx0, hh0⟩ := bO_some hh
 obtain ⟨a1, hx1, hh1⟩ := bO_some hh0
 have ex0 := asSl_some hx0
 have ex1 := asI_some hx1
 subst ex0 ex1
 obtain ⟨N, t, h, hκ⟩ := callX_some hh1
 refine ⟨_, _, hκ, told_of_run pq okC_88 (fun _ _ _ => drawA_ok pq okC_88 hmix) (E := E_88) (fn := Try.f88) (body := B_88) (by kernel_rfl) (by kernel_rfl) (by kernel_rfl) (by rfl) (by exact Nat.le_of_ble_eq_true rfl) (fun k hk => ?_)⟩
 refine (w_88 l0 a1 k).trans ?_
 replace h : laws_szInsS.f l0 a1 = some t := h
 unfold laws_szInsS.f at h
 refine br_ite h rfl (fun c2 h => ?_) (fun c2 h => ?_)
 ·cases h; exact hk
 cases h; exact hk
noncomputable def C_25 : Ctr tau Unit := ctrS 88 c_88 C_88
noncomputable def D_25 : Drw tau := drawA E_25 C_25
theorem okC_25 : CtrOk Try.prog TT pnT C_25 := ctrS_ok okC_88 okc_88
theorem mC_25 : CtrMono C_25 := ctrS_mono mC_88 mc_88
theorem mD_25 : DrMono D_25 := drawA_mono mC_25
noncomputable def B_25 : Code := Try.f25.body.getD .skip
theorem mc_25 (args : List (AV tau)) (m : Mem tau) (k k' : AV tau → Mem tau → Option Unit) (hk : ∀ av m, k av m = some () → k' av m = some ()) (h : c_25 args m k = some ()) : c_25 args m k' = some () := by
 unfold c_25 at h ⊢
 split at h
 · repeat' first | exact callX_mono (fun _ h => hk _ _ h) h | refine bO_mono (fun _ h => ?_) h
 · cases h
noncomputable def K_25_0 (k : AV tau → Mem tau → Option Unit) : Kon tau := (kBlock 0 (kS E_25 C_25 D_25 (codeP B_25 [1, 1, 1, 1]) (kEnd E_25 Try.f25 k)))
def st_25_0 (x0 : (List (List S175))) (x1 : Int) (x2 : Int) : St tau := ⟨tmL 27 0 [(0, .sl 133 x0), (1, .int .i64 x1), (5, .int .i64 x2)], ⟨[], []⟩⟩
noncomputable def LP_25_0 (k : AV tau → Mem tau → Option Unit) (x0 : (List (List S175))) (x1 : Int) (x2 : Int) : Option Unit := loopA E_25 (codeA E_25 C_25 D_25 (codeP B_25 [1, 1, 1, 0, 1, 0, 0])) (codeP B_25 [1, 1, 1, 0, 1, 0, 0]) (K_25_0 k) (st_25_0 x0 x1 x2)
theorem w_25_0 (k : AV tau → Mem tau → Option Unit) (x0 : (List (List S175))) (x1 : Int) (x2 : Int) : codeA E_25 C_25 D_25 (codeP B_25 [1, 1, 1, 0, 1, 0, 0]) (kL E_25 C_25 D_25 (codeP B_25 [1, 1, 1, 0, 1, 0, 0]) (K_25_0 k)) (st_25_0 x0 x1 x2) = (brA (decide (x2 < ((x0.length : Nat) : Int))) (brA (decide ((0 : Int) ≤ x2)) (brA (decide (x2 < ((x0.length : Nat) : Int))) (callX (fun n => laws_szInsS.f (List.getD x0 (Int.toNat x2) []) x1) fun t0 => brA (decide (t0 < (0 : Int))) (k (.int .i64 (-(1 : Int))) ⟨[], []⟩) (LP_25_0 k x0 t0 (wrap64 (x2 + (1 : Int))))) (none)) (none)) (k (.int .i64 x1) ⟨[], []⟩) : Option Unit) := by
 simp only [← wrapA_i64]
 kernel_rfl
theorem w_25 (l0 : List (List S175)) (a1 : Int) (k : AV tau → Mem tau → Option Unit) : fnA E_25 C_25 D_25 Try.f25 B_25 [.sl 133 l0, .int .i64 a1] ⟨[], []⟩ k = (brA (decide ((wrap64 (a1 - ((l0.length : Nat) : Int))) < (0 : Int))) (k (.int .i64 (-(1 : Int))) ⟨[], []⟩) (LP_25_0 k l0 (wrap64 (a1 - ((l0.length : Nat) : Int))) (0 : Int)) : Option Unit) := by
 simp only [← wrapA_i64]
 kernel_rfl
def S_25_0 (N : Nat) : Prop := ∀ (k : AV tau → Mem tau → Option Unit) (x0 : (List (List S175))) (x1 : Int) (x2 : Int) (r : Int), laws_szInsSS.l0 N (x0) (x1) (x2) = some r → k (.int .i64 (r)) ⟨[], []⟩ = some () → LP_25_0 k x0 x1 x2 = some ()
theorem L_25 (N : Nat) : S_25_0 N := by
 induction N using Nat.strongRecOn with | _ N0 ih =>
 skip
 intro k x0 x1 x2 r h hk
 rcases N0 with _ | N
 · cases h
 first | rw [laws_szInsSS.l0] at h | simp only [laws_szInsSS.l0] at h | (unfold laws_szInsSS.l0 at h; dsimp only at h)
 refine loop_fold mC_25 mD_25 ?_
 refine (w_25_0 k x0 x1 x2).trans ?_
 refine br_eti h rfl (fun c11 h => ?_) (fun c11 h => ?_)
 ·cases h; exact hk
 refine br_g h rfl (fun c12 h => ?_)
 refine br_t (by first | (simp [c11]; done) | (simp; omega) | (simp only [List.length_append, List.length_cons, List.length_nil, List.length_take, List.length_drop] at c11 ⊢; simp; omega) | (simp only [List.length_append, List.length_cons, List.length_nil, List.length_take, List.length_drop] at c11; simp; omega) | (simp_all; done)) ?_
 refine call_h 0 h (fun t0 e13 h => ?_)
 refine br_ite h rfl (fun c14 h => ?_) (fun c14 h => ?_)
 ·cases h; exact hk
 exact (ih N (by omega)) _ _ _ _ _ h hk
theorem okc_25 (args : List (AV tau)) (m : Mem tau) (κ : AV tau → Mem tau → Option Unit) (hh : c_25 args m κ = some ()) : ∃ av m1, κ av m1 = some () ∧ ToldA Try.prog TT (pnT 25) 25 args m av m1 := by
 obtain ⟨bx_, rw_⟩ := m
 unfold c_25 at hh
 simp only at hh
 split at hh
 case h_2 => cases hh
 rename_i b0 b1
 obtain ⟨l0, hx0, hh0⟩ := bO_some hh
 obtain ⟨a1, hx1, hh1⟩ := bO_some hh0
 have ex0 := asSl_some hx0
 have ex1 := asI_some hx1
 subst ex0 ex1
 obtain ⟨N, t, h, hκ⟩ := callX_some hh1
 refine ⟨_, _, hκ, told_of_run pq okC_25 (fun _ _ _ => drawA_ok pq okC_25 hmix) (E := E_25) (fn := Try.f25) (body := B_25) (by kernel_rfl) (by kernel_rfl) (by kernel_rfl) (by rfl) (by exact Nat.le_of_ble_eq_true rfl) (fun k hk => ?_)⟩
 refine (w_25 l0 a1 k).trans ?_
 replace h : laws_szInsSS.f N l0 a1 = some t := h
 unfold laws_szInsSS.f at h
 refine br_ite h rfl (fun c15 h => ?_) (fun c15 h => ?_)
 ·cases h; exact hk
 exact (L_25 N) _ _ _ _ _ h hk
noncomputable def C_84 : Ctr tau Unit := ctrS 25 c_25 C_25
noncomputable def D_84 : Drw tau := drawA E_84 C_84
theorem okC_84 : CtrOk Try.prog TT pnT C_84 := ctrS_ok okC_25 okc_25
theorem mC_84 : CtrMono C_84 := ctrS_mono mC_25 mc_25
theorem mD_84 : DrMono D_84 := drawA_mono mC_84
noncomputable def B_84 : Code := Try.f84.body.getD .skip
theorem mc_84 (args : List (AV tau)) (m : Mem tau) (k k' : AV tau → Mem tau → Option Unit) (hk : ∀ av m, k av m = some () → k' av m = some ()) (h : c_84 args m k = some ()) : c_84 args m k' = some () := by
 unfold c_84 at h ⊢
 split at h
 · repeat' first | exact callX_mono (fun _ h => hk _ _ h) h | refine bO_mono (fun _ h => ?_) h
 · cases h
theorem w_84 (a0 : Int) (k : AV tau → Mem tau → Option Unit) : fnA E_84 C_84 D_84 Try.f84 B_84 [.int .i64 a0] ⟨[], []⟩ k = (brA (decide (a0 ≥ (-(1000000 : Int)))) (k (.bool (decide (a0 ≤ (1000000 : Int)))) ⟨[], []⟩) (k (.bool false) ⟨[], []⟩) : Option Unit) := by kernel_rfl
theorem okc_84 (args : List (AV tau)) (m : Mem tau) (κ : AV tau → Mem tau → Option Unit) (hh : c_84 args m κ = some ()) : ∃ av m1, κ av m1 = some () ∧ ToldA Try.prog TT (pnT 84) 84 args m av m1 := by
 obtain ⟨bx_, rw_⟩ := m
 unfold c_84 at hh
 simp only at hh
 split at hh
 case h_2 => cases hh
 rename_i b0
 obtain ⟨a0, hx0, hh0⟩ := bO_some hh
 have ex0 := asI_some hx0
 subst ex0
 obtain ⟨N, t, h, hκ⟩ := callX_some hh0
 refine ⟨_, _, hκ, told_of_run pq okC_84 (fun _ _ _ => drawA_ok pq okC_84 hmix) (E := E_84) (fn := Try.f84) (body := B_84) (by kernel_rfl) (by kernel_rfl) (by kernel_rfl) (by rfl) (by exact Nat.le_of_ble_eq_true rfl) (fun k hk => ?_)⟩
 refine (w_84 a0 k).trans ?_
 replace h : spec_l1Num.f a0 = some t := h
 unfold spec_l1Num.f at h
 refine br_eti h rfl (fun c2 h => ?_) (fun c2 h => ?_)
 ·cases h; exact hk
 cases h; exact hk
noncomputable def C_22 : Ctr tau Unit := ctrS 84 c_84 C_84
noncomputable def D_22 : Drw tau := drawA E_22 C_22
theorem okC_22 : CtrOk Try.prog TT pnT C_22 := ctrS_ok okC_84 okc_84
theorem mC_22 : CtrMono C_22 := ctrS_mono mC_84 mc_84
theorem mD_22 : DrMono D_22 := drawA_mono mC_22
noncomputable def B_22 : Code := Try.f22.body.getD .skip
theorem mc_22 (args : List (AV tau)) (m : Mem tau) (k k' : AV tau → Mem tau → Option Unit) (hk : ∀ av m, k av m = some () → k' av m = some ()) (h : c_22 args m k = some ()) : c_22 args m k' = some () := by
 unfold c_22 at h ⊢
 split at h
 · repeat' first | exact callX_mono (fun _ h => hk _ _ h) h | refine bO_mono (fun _ h => ?_) h
 · cases h
noncomputable def K_22_0 (k : AV tau → Mem tau → Option Unit) : Kon tau := (kBlock 0 (kS E_22 C_22 D_22 (codeP B_22 [1, 1, 1]) (kEnd E_22 Try.f22 k)))
def st_22_0 (x0 : (List S37)) (x1 : Int) : St tau := ⟨tmL 36 0 [(0, .sl 37 x0), (3, .int .i64 x1)], ⟨[], []⟩⟩
noncomputable def LP_22_0 (k : AV tau → Mem tau → Option Unit) (x0 : (List S37)) (x1 : Int) : Option Unit := loopA E_22 (codeA E_22 C_22 D_22 (codeP B_22 [1, 1, 0, 1, 0, 0])) (codeP B_22 [1, 1, 0, 1, 0, 0]) (K_22_0 k) (st_22_0 x0 x1)
theorem w_22_0 (k : AV tau → Mem tau → Option Unit) (x0 : (List S37)) (x1 : Int) : codeA E_22 C_22 D_22 (codeP B_22 [1, 1, 0, 1, 0, 0]) (kL E_22 C_22 D_22 (codeP B_22 [1, 1, 0, 1, 0, 0]) (K_22_0 k)) (st_22_0 x0 x1) = (brA (decide (x1 < ((x0.length : Nat) : Int))) (brA (decide ((0 : Int) ≤ x1)) (brA (decide (x1 < ((x0.length : Nat) : Int))) (brA (decide ((rd_T37 x0 x1).f0 < (0 : Int))) (k (.bool false) ⟨[], []⟩) (brA (decide ((0 : Int) ≤ x1)) (brA (decide (x1 < ((x0.length : Nat) : Int))) (brA (decide ((rd_T37 x0 x1).f0 > (1000000 : Int))) (k (.bool false) ⟨[], []⟩) (brA (decide ((0 : Int) ≤ x1)) (brA (decide (x1 < ((x0.length : Nat) : Int))) (callX (fun n => spec_l1Num.f ((rd_T37 x0 x1).f1)) fun t0 => brA (!t0) (k (.bool false) ⟨[], []⟩) (LP_22_0 k x0 (wrap64 (x1 + (1 : Int))))) (none)) (none))) (none)) (none))) (none)) (none)) (k (.bool true) ⟨[], []⟩) : Option Unit) := by
 simp only [← wrapA_i64]
 kernel_rfl
theorem w_22 (l0 : List S37) (k : AV tau → Mem tau → Option Unit) : fnA E_22 C_22 D_22 Try.f22 B_22 [.sl 37 l0] ⟨[], []⟩ k = (brA (!(decide (((l0.length : Nat) : Int) = (4 : Int)))) (k (.bool false) ⟨[], []⟩) (LP_22_0 k l0 (0 : Int)) : Option Unit) := by kernel_rfl
def S_22_0 (N : Nat) : Prop := ∀ (k : AV tau → Mem tau → Option Unit) (x0 : (List S37)) (x1 : Int) (r : Bool), spec_BoxOk.l0 N (x0) (x1) = some r → k (.bool (r)) ⟨[], []⟩ = some () → LP_22_0 k x0 x1 = some ()
theorem L_22 (N : Nat) : S_22_0 N := by
 induction N using Nat.strongRecOn with | _ N0 ih =>
 skip
 intro k x0 x1 r h hk
 rcases N0 with _ | N
 · cases h
 first | rw [spec_BoxOk.l0] at h | simp only [spec_BoxOk.l0] at h | (unfold spec_BoxOk.l0 at h; dsimp only at h)
 refine loop_fold mC_22 mD_22 ?_
 refine (w_22_0 k x0 x1).trans ?_
 refine br_eti h rfl (fun c15 h => ?_) (fun c15 h => ?_)
 ·cases h; exact hk
 refine br_g h rfl (fun c16 h => ?_)
 refine br_t (by first | (simp [c15]; done) | (simp; omega) | (simp only [List.length_append, List.length_cons, List.length_nil, List.length_take, List.length_drop] at c15 ⊢; simp; omega) | (simp only [List.length_append, List.length_cons, List.length_nil, List.length_take, List.length_drop] at c15; simp; omega) | (simp_all; done)) ?_
 refine br_ite h rfl (fun c17 h => ?_) (fun c17 h => ?_)
 ·cases h; exact hk
 refine br_t (by first | (simp [c16]; done) | (simp; omega) | (simp only [List.length_append, List.length_cons, List.length_nil, List.length_take, List.length_drop] at c15 ⊢; simp; omega) | (simp only [List.length_append, List.length_cons, List.length_nil, List.length_take, List.length_drop] at c15; simp; omega) | (simp_all; done)) ?_
 refine br_t (by first | (simp [c15]; done) | (simp; omega) | (simp only [List.length_append, List.length_cons, List.length_nil, List.length_take, List.length_drop] at c15 ⊢; simp; omega) | (simp only [List.length_append, List.length_cons, List.length_nil, List.length_take, List.length_drop] at c15; simp; omega) | (simp_all; done)) ?_
 refine br_ite h rfl (fun c18 h => ?_) (fun c18 h => ?_)
 ·cases h; exact hk
 refine br_t (by first | (simp [c16]; done) | (simp; omega) | (simp only [List.length_append, List.length_cons, List.length_nil, List.length_take, List.length_drop] at c15 ⊢; simp; omega) | (simp only [List.length_append, List.length_cons, List.length_nil, List.length_take, List.length_drop] at c15; simp; omega) | (simp_all; done)) ?_
 refine br_t (by first | (simp [c15]; done) | (simp; omega) | (simp only [List.length_append, List.length_cons, List.length_nil, List.length_take, List.length_drop] at c15 ⊢; simp; omega) | (simp only [List.length_append, List.length_cons, List.length_nil, List.length_take, List.length_drop] at c15; simp; omega) | (simp_all; done)) ?_
 refine call_h 0 h (fun t0 e19 h => ?_)
 refine br_etn h (congrArg not dect) (fun c20 h => ?_) (fun c20 h => ?_)
 ·cases h; exact hk
 exact (ih N (by omega)) _ _ _ _ h hk
theorem okc_22 (args : List (AV tau)) (m : Mem tau) (κ : AV tau → Mem tau → Option Unit) (hh : c_22 args m κ = some ()) : ∃ av m1, κ av m1 = some () ∧ ToldA Try.prog TT (pnT 22) 22 args m av m1 := by
 obtain ⟨bx_, rw_⟩ := m
 unfold c_22 at hh
 simp only at hh
 split at hh
 case h_2 => cases hh
 rename_i b0
 obtain ⟨l0, hx0, hh0⟩ := bO_some hh
 have ex0 := asSl_some hx0
 subst ex0
 obtain ⟨N, t, h, hκ⟩ := callX_some hh0
 refine ⟨_, _, hκ, told_of_run pq okC_22 (fun _ _ _ => drawA_ok pq okC_22 hmix) (E := E_22) (fn := Try.f22) (body := B_22) (by kernel_rfl) (by kernel_rfl) (by kernel_rfl) (by rfl) (by exact Nat.le_of_ble_eq_true rfl) (fun k hk => ?_)⟩
 refine (w_22 l0 k).trans ?_
 replace h : spec_BoxOk.f N l0 = some t := h
 unfold spec_BoxOk.f at h
 refine br_itn h rfl (fun c21 h => ?_) (fun c21 h => ?_)
 ·exact (L_22 N) _ _ _ _ h hk
 cases h; exact hk
noncomputable def C_89 : Ctr tau Unit := ctrS 22 c_22 C_22
noncomputable def D_89 : Drw tau := drawA E_89 C_89
theorem okC_89 : CtrOk Try.prog TT pnT C_89 := ctrS_ok okC_22 okc_22
theorem mC_89 : CtrMono C_89 := ctrS_mono mC_22 mc_22
theorem mD_89 : DrMono D_89 := drawA_mono mC_89
noncomputable def B_89 : Code := Try.f89.body.getD .skip
theorem mc_89 (args : List (AV tau)) (m : Mem tau) (k k' : AV tau → Mem tau → Option Unit) (hk : ∀ av m, k av m = some () → k' av m = some ()) (h : c_89 args m k = some ()) : c_89 args m k' = some () := by
 unfold c_89 at h ⊢
 split at h
 · repeat' first | exact callX_mono (fun _ h => hk _ _ h) h | refine bO_mono (fun _ h => ?_) h
 · cases h
theorem w_89 (l0 : List S37) (k : AV tau → Mem tau → Option Unit) : fnA E_89 C_89 D_89 Try.f89 B_89 [.sl 37 l0] ⟨[], []⟩ k = (brA (decide ((0 + l0.length) ≤ 8796093022208)) (k (.own 0 0) ⟨[], [some ⟨37, l0, 0⟩]⟩) (none) : Option Unit) := by kernel_rfl
theorem okc_89 (args : List (AV tau)) (m : Mem tau) (κ : AV tau → Mem tau → Option Unit) (hh : c_89 args m κ = some ()) : ∃ av m1, κ av m1 = some () ∧ ToldA Try.prog TT (pnT 89) 89 args m av m1 := by
 obtain ⟨bx_, rw_⟩ := m
 unfold c_89 at hh
 simp only at hh
 split at hh
 case h_2 => cases hh
 rename_i b0
 obtain ⟨l0, hx0, hh0⟩ := bO_some hh
 have ex0 := asSl_some hx0
 subst ex0
 obtain ⟨N, t, h, hκ⟩ := callX_some hh0
 refine ⟨_, _, hκ, told_of_run pq okC_89 (fun _ _ _ => drawA_ok pq okC_89 hmix) (E := E_89) (fn := Try.f89) (body := B_89) (by kernel_rfl) (by kernel_rfl) (by kernel_rfl) (by rfl) (by exact Nat.le_of_ble_eq_true rfl) (fun k hk => ?_)⟩
 refine (w_89 l0 k).trans ?_
 replace h : spec_l1Copy.f l0 = some t := h
 unfold spec_l1Copy.f at h
 replace h := let_h h
 refine ite_x h (fun c2 h => ?_) (fun _ h => by cases h)
 refine br_t (by first | (simp; omega) | (simp only [List.length_append, List.length_cons, List.length_nil, List.length_take, List.length_drop] at c2 ⊢; simp; omega) | (simp only [List.length_append, List.length_cons, List.length_nil, List.length_take, List.length_drop] at c2; simp; omega)) ?_
 cases h; exact hk
noncomputable def C_85 : Ctr tau Unit := ctrS 89 c_89 C_89
noncomputable def D_85 : Drw tau := drawA E_85 C_85
theorem okC_85 : CtrOk Try.prog TT pnT C_85 := ctrS_ok okC_89 okc_89
theorem mC_85 : CtrMono C_85 := ctrS_mono mC_89 mc_89
theorem mD_85 : DrMono D_85 := drawA_mono mC_85
noncomputable def B_85 : Code := Try.f85.body.getD .skip
theorem mc_85 (args : List (AV tau)) (m : Mem tau) (k k' : AV tau → Mem tau → Option Unit) (hk : ∀ av m, k av m = some () → k' av m = some ()) (h : c_85 args m k = some ()) : c_85 args m k' = some () := by
 unfold c_85 at h ⊢
 split at h
 · repeat' first | exact callX_mono (fun _ h => hk _ _ h) h | refine bO_mono (fun _ h => ?_) h
 · cases h
theorem w_85 (a0 : Int) (k : AV tau → Mem tau → Option Unit) : fnA E_85 C_85 D_85 Try.f85 B_85 [.int .i64 a0] ⟨[], []⟩ k = (brA (decide (a0 ≥ (0 : Int))) (k (.bool (decide (a0 < (4 : Int)))) ⟨[], []⟩) (k (.bool false) ⟨[], []⟩) : Option Unit) := by kernel_rfl
theorem okc_85 (args : List (AV tau)) (m : Mem tau) (κ : AV tau → Mem tau → Option Unit) (hh : c_85 args m κ = some ()) : ∃ av m1, κ av m1 = some () ∧ ToldA Try.prog TT (pnT 85) 85 args m av m1 := by
 obtain ⟨bx_, rw_⟩ := m
 unfold c_85 at hh
 simp only at hh
 split at hh
 case h_2 => cases hh
 rename_i b0
 obtain ⟨a0, hx0, hh0⟩ := bO_some hh
 have ex0 := asI_some hx0
 subst ex0
 obtain ⟨N, t, h, hκ⟩ := callX_some hh0
 refine ⟨_, _, hκ, told_of_run pq okC_85 (fun _ _ _ => drawA_ok pq okC_85 hmix) (E := E_85) (fn := Try.f85) (body := B_85) (by kernel_rfl) (by kernel_rfl) (by kernel_rfl) (by rfl) (by exact Nat.le_of_ble_eq_true rfl) (fun k hk => ?_)⟩
 refine (w_85 a0 k).trans ?_
 replace h : spec_l2Box.f a0 = some t := h
 unfold spec_l2Box.f at h
 refine br_eti h rfl (fun c2 h => ?_) (fun c2 h => ?_)
 ·cases h; exact hk
 cases h; exact hk
noncomputable def C_170 : Ctr tau Unit := ctrS 85 c_85 C_85
noncomputable def D_170 : Drw tau := drawA E_170 C_170
theorem okC_170 : CtrOk Try.prog TT pnT C_170 := ctrS_ok okC_85 okc_85
theorem mC_170 : CtrMono C_170 := ctrS_mono mC_85 mc_85
theorem mD_170 : DrMono D_170 := drawA_mono mC_170
noncomputable def B_170 : Code := Try.f170.body.getD .skip
theorem mc_170 (args : List (AV tau)) (m : Mem tau) (k k' : AV tau → Mem tau → Option Unit) (hk : ∀ av m, k av m = some () → k' av m = some ()) (h : c_170 args m k = some ()) : c_170 args m k' = some () := by
 unfold c_170 at h ⊢
 split at h
 · repeat' first | exact callX_mono (fun _ h => hk _ _ h) h | refine bO_mono (fun _ h => ?_) h
 · cases h
theorem w_170 (a0 : Int) (k : AV tau → Mem tau → Option Unit) : fnA E_170 C_170 D_170 Try.f170 B_170 [.int .i64 a0] ⟨[], []⟩ k = (brA (decide (a0 ≥ (0 : Int))) (k (.bool (decide (a0 < (4 : Int)))) ⟨[], []⟩) (k (.bool false) ⟨[], []⟩) : Option Unit) := by kernel_rfl
theorem okc_170 (args : List (AV tau)) (m : Mem tau) (κ : AV tau → Mem tau → Option Unit) (hh : c_170 args m κ = some ()) : ∃ av m1, κ av m1 = some () ∧ ToldA Try.prog TT (pnT 170) 170 args m av m1 := by
 obtain ⟨bx_, rw_⟩ := m
 unfold c_170 at hh
 simp only at hh
 split at hh
 case h_2 => cases hh
 rename_i b0
 obtain ⟨a0, hx0, hh0⟩ := bO_some hh
 have ex0 := asI_some hx0
 subst ex0
 obtain ⟨N, t, h, hκ⟩ := callX_some hh0
 refine ⟨_, _, hκ, told_of_run pq okC_170 (fun _ _ _ => drawA_ok pq okC_170 hmix) (E := E_170) (fn := Try.f170) (body := B_170) (by kernel_rfl) (by kernel_rfl) (by kernel_rfl) (by rfl) (by exact Nat.le_of_ble_eq_true rfl) (fun k hk => ?_)⟩
 refine (w_170 a0 k).trans ?_
 replace h : spec_l2Reg.f a0 = some t := h
 unfold spec_l2Reg.f at h
 refine br_eti h rfl (fun c2 h => ?_) (fun c2 h => ?_)
 ·cases h; exact hk
 cases h; exact hk
noncomputable def C_153 : Ctr tau Unit := ctrS 170 c_170 C_170
noncomputable def D_153 : Drw tau := drawA E_153 C_153
theorem okC_153 : CtrOk Try.prog TT pnT C_153 := ctrS_ok okC_170 okc_170
theorem mC_153 : CtrMono C_153 := ctrS_mono mC_170 mc_170
theorem mD_153 : DrMono D_153 := drawA_mono mC_153
noncomputable def B_153 : Code := Try.f153.body.getD .skip
theorem mc_153 (args : List (AV tau)) (m : Mem tau) (k k' : AV tau → Mem tau → Option Unit) (hk : ∀ av m, k av m = some () → k' av m = some ()) (h : c_153 args m k = some ()) : c_153 args m k' = some () := by
 unfold c_153 at h ⊢
 split at h
 · repeat' first | exact callX_mono (fun _ h => hk _ _ h) h | refine bO_mono (fun _ h => ?_) h
 · cases h
theorem w_153 (a0_0 : Int) (a0_1 : Int) (a0_2 : Int) (a0_3 : Int) (k : AV tau → Mem tau → Option Unit) : fnA E_153 C_153 D_153 Try.f153 B_153 [.agg [.int .i64 a0_0, .int .i64 a0_1, .int .i64 a0_2, .int .i64 a0_3]] ⟨[], []⟩ k = (brA (decide (a0_0 = (1 : Int))) (callX (fun n => spec_l2Reg.f a0_1) fun t0 => brA t0 (callX (fun n => spec_l2Box.f a0_2) fun t1 => brA t1 (k (.bool (decide (a0_3 = (0 : Int)))) ⟨[], []⟩) (k (.bool false) ⟨[], []⟩)) (k (.bool false) ⟨[], []⟩)) (brA (decide (a0_0 = (2 : Int))) (callX (fun n => spec_l2Box.f a0_1) fun t2 => brA t2 (callX (fun n => spec_l2Reg.f a0_2) fun t3 => brA t3 (k (.bool (decide (a0_3 = (0 : Int)))) ⟨[], []⟩) (k (.bool false) ⟨[], []⟩)) (k (.bool false) ⟨[], []⟩)) (brA (decide (a0_0 = (3 : Int))) (callX (fun n => spec_l2Reg.f a0_1) fun t4 => brA t4 (brA (decide (a0_2 = (0 : Int))) (callX (fun n => spec_l1Num.f a0_3) fun t5 => k (.bool t5) ⟨[], []⟩) (k (.bool false) ⟨[], []⟩)) (k (.bool false) ⟨[], []⟩)) (brA (decide (a0_0 = (4 : Int))) (brA (decide (a0_0 = (4 : Int))) (callX (fun n => spec_l2Reg.f a0_1) fun t6 => brA t6 (callX (fun n => spec_l2Reg.f a0_2) fun t7 => brA t7 (k (.bool (decide (a0_3 = (0 : Int)))) ⟨[], []⟩) (k (.bool false) ⟨[], []⟩)) (k (.bool false) ⟨[], []⟩)) (brA (decide (a0_0 = (6 : Int))) (callX (fun n => spec_l2Reg.f a0_1) fun t8 => brA t8 (callX (fun n => spec_l2Reg.f a0_2) fun t9 => brA t9 (brA (decide (a0_3 ≥ (1 : Int))) (k (.bool (decide (a0_3 ≤ (10 : Int)))) ⟨[], []⟩) (k (.bool false) ⟨[], []⟩)) (k (.bool false) ⟨[], []⟩)) (k (.bool false) ⟨[], []⟩)) (brA (decide (a0_0 = (7 : Int))) (brA (decide (a0_1 = (0 : Int))) (brA (decide (a0_2 = (0 : Int))) (k (.bool (decide (a0_3 = (0 : Int)))) ⟨[], []⟩) (k (.bool false) ⟨[], []⟩)) (k (.bool false) ⟨[], []⟩)) (k (.bool false) ⟨[], []⟩)))) (brA (decide (a0_0 = (5 : Int))) (callX (fun n => spec_l2Reg.f a0_1) fun t10 => brA t10 (callX (fun n => spec_l2Reg.f a0_2) fun t11 => brA t11 (k (.bool (decide (a0_3 = (0 : Int)))) ⟨[], []⟩) (k (.bool false) ⟨[], []⟩)) (k (.bool false) ⟨[], []⟩)) (brA (decide (a0_0 = (6 : Int))) (callX (fun n => spec_l2Reg.f a0_1) fun t12 => brA t12 (callX (fun n => spec_l2Reg.f a0_2) fun t13 => brA t13 (brA (decide (a0_3 ≥ (1 : Int))) (k (.bool (decide (a0_3 ≤ (10 : Int)))) ⟨[], []⟩) (k (.bool false) ⟨[], []⟩)) (k (.bool false) ⟨[], []⟩)) (k (.bool false) ⟨[], []⟩)) (brA (decide (a0_0 = (7 : Int))) (brA (decide (a0_1 = (0 : Int))) (brA (decide (a0_2 = (0 : Int))) (k (.bool (decide (a0_3 = (0 : Int)))) ⟨[], []⟩) (k (.bool false) ⟨[], []⟩)) (k (.bool false) ⟨[], []⟩)) (k (.bool false) ⟨[], []⟩))))))) : Option Unit) := by kernel_rfl
theorem okc_153 (args : List (AV tau)) (m : Mem tau) (κ : AV tau → Mem tau → Option Unit) (hh : c_153 args m κ = some ()) : ∃ av m1, κ av m1 = some () ∧ ToldA Try.prog TT (pnT 153) 153 args m av m1 := by
 obtain ⟨bx_, rw_⟩ := m
 unfold c_153 at hh
 simp only at hh
 split at hh
 case h_2 => cases hh
 rename_i b0 b1 b2 b3
 obtain ⟨a0_0, hx0, hh0⟩ := bO_some hh
 obtain ⟨a0_1, hx1, hh1⟩ := bO_some hh0
 obtain ⟨a0_2, hx2, hh2⟩ := bO_some hh1
 obtain ⟨a0_3, hx3, hh3⟩ := bO_some hh2
 have ex0 := asI_some hx0
 have ex1 := asI_some hx1
 have ex2 := asI_some hx2
 have ex3 := asI_some hx3
 subst ex0 ex1 ex2 ex3
 obtain ⟨N, t, h, hκ⟩ := callX_some hh3
 refine ⟨_, _, hκ, told_of_run pq okC_153 (fun _ _ _ => drawA_ok pq okC_153 hmix) (E := E_153) (fn := Try.f153) (body := B_153) (by kernel_rfl) (by kernel_rfl) (by kernel_rfl) (by rfl) (by exact Nat.le_of_ble_eq_true rfl) (fun k hk => ?_)⟩
 refine (w_153 a0_0 a0_1 a0_2 a0_3 k).trans ?_
 replace h : spec_l2Ins.f N a0_0 a0_1 a0_2 a0_3 = some t := h
 unfold spec_l2Ins.f at h
 refine br_ite h rfl (fun c45 h => ?_) (fun c45 h => ?_)
 ·refine call_h 0 h (fun t0 e46 h => ?_)
  refine br_eti h dect (fun c47 h => ?_) (fun c47 h => ?_)
  ·cases h; exact hk
  refine call_h 0 h (fun t1 e48 h => ?_)
  refine br_eti h dect (fun c49 h => ?_) (fun c49 h => ?_)
  ·cases h; exact hk
  cases h; exact hk
 refine br_ite h rfl (fun c50 h => ?_) (fun c50 h => ?_)
 ·refine call_h 0 h (fun t2 e51 h => ?_)
  refine br_eti h dect (fun c52 h => ?_) (fun c52 h => ?_)
  ·cases h; exact hk
  refine call_h 0 h (fun t3 e53 h => ?_)
  refine br_eti h dect (fun c54 h => ?_) (fun c54 h => ?_)
  ·cases h; exact hk
  cases h; exact hk
 refine br_ite h rfl (fun c55 h => ?_) (fun c55 h => ?_)
 ·refine call_h 0 h (fun t4 e56 h => ?_)
  refine br_eti h dect (fun c57 h => ?_) (fun c57 h => ?_)
  ·cases h; exact hk
  refine br_eti h rfl (fun c58 h => ?_) (fun c58 h => ?_)
  ·cases h; exact hk
  refine call_h 0 h (fun t5 e59 h => ?_)
  cases h; exact hk
 refine br_ite h rfl (fun c60 h => ?_) (fun c60 h => ?_)
 ·rcases N with _ | N
  · cases h
  first | rw [spec_l2Ins.j0] at h | simp only [spec_l2Ins.j0] at h | (unfold spec_l2Ins.j0 at h; dsimp only at h)
  refine br_ite h (by first | rfl | exact dect | exact (congrArg not dect) | (simp; done) | (simp [beqI]; done) | (simp; omega)) (fun c61 h => ?_) (fun c61 h => ?_)
  ·refine call_h 0 h (fun t6 e62 h => ?_)
   refine br_eti h dect (fun c63 h => ?_) (fun c63 h => ?_)
   ·cases h; exact hk
   refine call_h 0 h (fun t7 e64 h => ?_)
   refine br_eti h dect (fun c65 h => ?_) (fun c65 h => ?_)
   ·cases h; exact hk
   cases h; exact hk
  refine br_eti h rfl (fun c66 h => ?_) (fun c66 h => ?_)
  ·refine br_eti h rfl (fun c67 h => ?_) (fun c67 h => ?_)
   ·cases h; exact hk
   refine br_eti h rfl (fun c68 h => ?_) (fun c68 h => ?_)
   ·cases h; exact hk
   refine br_eti h rfl (fun c69 h => ?_) (fun c69 h => ?_)
   ·cases h; exact hk
   cases h; exact hk
  refine call_h 0 h (fun t8 e70 h => ?_)
  refine br_eti h dect (fun c71 h => ?_) (fun c71 h => ?_)
  ·cases h; exact hk
  refine call_h 0 h (fun t9 e72 h => ?_)
  refine br_eti h dect (fun c73 h => ?_) (fun c73 h => ?_)
  ·cases h; exact hk
  refine br_eti h rfl (fun c74 h => ?_) (fun c74 h => ?_)
  ·cases h; exact hk
  cases h; exact hk
 rcases N with _ | N
 · cases h
 first | rw [spec_l2Ins.j0] at h | simp only [spec_l2Ins.j0] at h | (unfold spec_l2Ins.j0 at h; dsimp only at h)
 refine br_ite h (by first | rfl | exact dect | exact (congrArg not dect) | (simp; done) | (simp [beqI]; done) | (simp; omega)) (fun c75 h => ?_) (fun c75 h => ?_)
 ·refine call_h 0 h (fun t10 e76 h => ?_)
  refine br_eti h dect (fun c77 h => ?_) (fun c77 h => ?_)
  ·cases h; exact hk
  refine call_h 0 h (fun t11 e78 h => ?_)
  refine br_eti h dect (fun c79 h => ?_) (fun c79 h => ?_)
  ·cases h; exact hk
  cases h; exact hk
 refine br_eti h rfl (fun c80 h => ?_) (fun c80 h => ?_)
 ·refine br_eti h rfl (fun c81 h => ?_) (fun c81 h => ?_)
  ·cases h; exact hk
  refine br_eti h rfl (fun c82 h => ?_) (fun c82 h => ?_)
  ·cases h; exact hk
  refine br_eti h rfl (fun c83 h => ?_) (fun c83 h => ?_)
  ·cases h; exact hk
  cases h; exact hk
 refine call_h 0 h (fun t12 e84 h => ?_)
 refine br_eti h dect (fun c85 h => ?_) (fun c85 h => ?_)
 ·cases h; exact hk
 refine call_h 0 h (fun t13 e86 h => ?_)
 refine br_eti h dect (fun c87 h => ?_) (fun c87 h => ?_)
 ·cases h; exact hk
 refine br_eti h rfl (fun c88 h => ?_) (fun c88 h => ?_)
 ·cases h; exact hk
 cases h; exact hk
noncomputable def C_106 : Ctr tau Unit := ctrS 153 c_153 C_153
noncomputable def D_106 : Drw tau := drawA E_106 C_106
theorem okC_106 : CtrOk Try.prog TT pnT C_106 := ctrS_ok okC_153 okc_153
theorem mC_106 : CtrMono C_106 := ctrS_mono mC_153 mc_153
theorem mD_106 : DrMono D_106 := drawA_mono mC_106
noncomputable def B_106 : Code := Try.f106.body.getD .skip
theorem mc_106 (args : List (AV tau)) (m : Mem tau) (k k' : AV tau → Mem tau → Option Unit) (hk : ∀ av m, k av m = some () → k' av m = some ()) (h : c_106 args m k = some ()) : c_106 args m k' = some () := by
 unfold c_106 at h ⊢
 split at h
 · repeat' first | exact callX_mono (fun _ h => hk _ _ h) h | refine bO_mono (fun _ h => ?_) h
 · cases h
noncomputable def K_106_0 (k : AV tau → Mem tau → Option Unit) : Kon tau := (kBlock 0 (kS E_106 C_106 D_106 (codeP B_106 [1, 1, 1]) (kEnd E_106 Try.f106 k)))
def st_106_0 (x0 : (List S95)) (x1 : Int) : St tau := ⟨tmL 19 0 [(0, .sl 95 x0), (3, .int .i64 x1)], ⟨[], []⟩⟩
noncomputable def LP_106_0 (k : AV tau → Mem tau → Option Unit) (x0 : (List S95)) (x1 : Int) : Option Unit := loopA E_106 (codeA E_106 C_106 D_106 (codeP B_106 [1, 1, 0, 1, 0, 0])) (codeP B_106 [1, 1, 0, 1, 0, 0]) (K_106_0 k) (st_106_0 x0 x1)
theorem w_106_0 (k : AV tau → Mem tau → Option Unit) (x0 : (List S95)) (x1 : Int) : codeA E_106 C_106 D_106 (codeP B_106 [1, 1, 0, 1, 0, 0]) (kL E_106 C_106 D_106 (codeP B_106 [1, 1, 0, 1, 0, 0]) (K_106_0 k)) (st_106_0 x0 x1) = (brA (decide (x1 < ((x0.length : Nat) : Int))) (brA (decide ((0 : Int) ≤ x1)) (brA (decide (x1 < ((x0.length : Nat) : Int))) (callX (fun n => spec_l2Ins.f n ((rd_T95 x0 x1).f0) ((rd_T95 x0 x1).f1) ((rd_T95 x0 x1).f2) ((rd_T95 x0 x1).f3)) fun t0 => brA (!t0) (k (.bool false) ⟨[], []⟩) (LP_106_0 k x0 (wrap64 (x1 + (1 : Int))))) (none)) (none)) (k (.bool true) ⟨[], []⟩) : Option Unit) := by
 simp only [← wrapA_i64]
 kernel_rfl
theorem w_106 (l0 : List S95) (k : AV tau → Mem tau → Option Unit) : fnA E_106 C_106 D_106 Try.f106 B_106 [.sl 95 l0] ⟨[], []⟩ k = (brA (decide (((l0.length : Nat) : Int) > (10 : Int))) (k (.bool false) ⟨[], []⟩) (LP_106_0 k l0 (0 : Int)) : Option Unit) := by kernel_rfl
def S_106_0 (N : Nat) : Prop := ∀ (k : AV tau → Mem tau → Option Unit) (x0 : (List S95)) (x1 : Int) (r : Bool), spec_ProgOk.l0 N (x0) (x1) = some r → k (.bool (r)) ⟨[], []⟩ = some () → LP_106_0 k x0 x1 = some ()
theorem L_106 (N : Nat) : S_106_0 N := by
 induction N using Nat.strongRecOn with | _ N0 ih =>
 skip
 intro k x0 x1 r h hk
 rcases N0 with _ | N
 · cases h
 first | rw [spec_ProgOk.l0] at h | simp only [spec_ProgOk.l0] at h | (unfold spec_ProgOk.l0 at h; dsimp only at h)
 refine loop_fold mC_106 mD_106 ?_
 refine (w_106_0 k x0 x1).trans ?_
 refine br_eti h rfl (fun c11 h => ?_) (fun c11 h => ?_)
 ·cases h; exact hk
 refine br_g h rfl (fun c12 h => ?_)
 refine br_t (by first | (simp [c11]; done) | (simp; omega) | (simp only [List.length_append, List.length_cons, List.length_nil, List.length_take, List.length_drop] at c11 ⊢; simp; omega) | (simp only [List.length_append, List.length_cons, List.length_nil, List.length_take, List.length_drop] at c11; simp; omega) | (simp_all; done)) ?_
 refine call_h N h (fun t0 e13 h => ?_)
 refine br_etn h (congrArg not dect) (fun c14 h => ?_) (fun c14 h => ?_)
 ·cases h; exact hk
 exact (ih N (by omega)) _ _ _ _ h hk
theorem okc_106 (args : List (AV tau)) (m : Mem tau) (κ : AV tau → Mem tau → Option Unit) (hh : c_106 args m κ = some ()) : ∃ av m1, κ av m1 = some () ∧ ToldA Try.prog TT (pnT 106) 106 args m av m1 := by
 obtain ⟨bx_, rw_⟩ := m
 unfold c_106 at hh
 simp only at hh
 split at hh
 case h_2 => cases hh
 rename_i b0
 obtain ⟨l0, hx0, hh0⟩ := bO_some hh
 have ex0 := asSl_some hx0
 subst ex0
 obtain ⟨N, t, h, hκ⟩ := callX_some hh0
 refine ⟨_, _, hκ, told_of_run pq okC_106 (fun _ _ _ => drawA_ok pq okC_106 hmix) (E := E_106) (fn := Try.f106) (body := B_106) (by kernel_rfl) (by kernel_rfl) (by kernel_rfl) (by rfl) (by exact Nat.le_of_ble_eq_true rfl) (fun k hk => ?_)⟩
 refine (w_106 l0 k).trans ?_
 replace h : spec_ProgOk.f N l0 = some t := h
 unfold spec_ProgOk.f at h
 refine br_eti h rfl (fun c15 h => ?_) (fun c15 h => ?_)
 ·exact (L_106 N) _ _ _ _ h hk
 cases h; exact hk
noncomputable def C_86 : Ctr tau Unit := ctrS 106 c_106 C_106
noncomputable def D_86 : Drw tau := drawA E_86 C_86
theorem okC_86 : CtrOk Try.prog TT pnT C_86 := ctrS_ok okC_106 okc_106
theorem mC_86 : CtrMono C_86 := ctrS_mono mC_106 mc_106
theorem mD_86 : DrMono D_86 := drawA_mono mC_86
noncomputable def B_86 : Code := Try.f86.body.getD .skip
theorem mc_86 (args : List (AV tau)) (m : Mem tau) (k k' : AV tau → Mem tau → Option Unit) (hk : ∀ av m, k av m = some () → k' av m = some ()) (h : c_86 args m k = some ()) : c_86 args m k' = some () := by
 unfold c_86 at h ⊢
 split at h
 · repeat' first | exact callX_mono (fun _ h => hk _ _ h) h | refine bO_mono (fun _ h => ?_) h
 · cases h
noncomputable def K_86_0 (k : AV tau → Mem tau → Option Unit) : Kon tau := (kBlock 0 (kS E_86 C_86 D_86 (codeP B_86 [1, 1]) (kEnd E_86 Try.f86 k)))
def st_86_0 (x0 : (List S39)) (x1 : Int) (x2 : Int) : St tau := ⟨tmL 19 0 [(0, .sl 39 x0), (1, .int .i64 x1), (5, .int .i64 x2)], ⟨[], []⟩⟩
noncomputable def LP_86_0 (k : AV tau → Mem tau → Option Unit) (x0 : (List S39)) (x1 : Int) (x2 : Int) : Option Unit := loopA E_86 (codeA E_86 C_86 D_86 (codeP B_86 [1, 0, 1, 0, 0])) (codeP B_86 [1, 0, 1, 0, 0]) (K_86_0 k) (st_86_0 x0 x1 x2)
theorem w_86_0 (k : AV tau → Mem tau → Option Unit) (x0 : (List S39)) (x1 : Int) (x2 : Int) : codeA E_86 C_86 D_86 (codeP B_86 [1, 0, 1, 0, 0]) (kL E_86 C_86 D_86 (codeP B_86 [1, 0, 1, 0, 0]) (K_86_0 k)) (st_86_0 x0 x1 x2) = (brA (decide (x2 < ((x0.length : Nat) : Int))) (brA (decide ((0 : Int) ≤ x2)) (brA (decide (x2 < ((x0.length : Nat) : Int))) (brA (decide ((rd_T39 x0 x2).f0 = x1)) (k (.bool true) ⟨[], []⟩) (LP_86_0 k x0 x1 (wrap64 (x2 + (1 : Int))))) (none)) (none)) (k (.bool false) ⟨[], []⟩) : Option Unit) := by
 simp only [← wrapA_i64]
 kernel_rfl
theorem w_86 (l0 : List S39) (a1 : Int) (k : AV tau → Mem tau → Option Unit) : fnA E_86 C_86 D_86 Try.f86 B_86 [.sl 39 l0, .int .i64 a1] ⟨[], []⟩ k = (LP_86_0 k l0 a1 (0 : Int) : Option Unit) := by kernel_rfl
def S_86_0 (N : Nat) : Prop := ∀ (k : AV tau → Mem tau → Option Unit) (x0 : (List S39)) (x1 : Int) (x2 : Int) (r : Bool), spec_l3Saw.l0 N (x0) (x1) (x2) = some r → k (.bool (r)) ⟨[], []⟩ = some () → LP_86_0 k x0 x1 x2 = some ()
theorem L_86 (N : Nat) : S_86_0 N := by
 induction N using Nat.strongRecOn with | _ N0 ih =>
 skip
 intro k x0 x1 x2 r h hk
 rcases N0 with _ | N
 · cases h
 first | rw [spec_l3Saw.l0] at h | simp only [spec_l3Saw.l0] at h | (unfold spec_l3Saw.l0 at h; dsimp only at h)
 refine loop_fold mC_86 mD_86 ?_
 refine (w_86_0 k x0 x1 x2).trans ?_
 refine br_eti h rfl (fun c7 h => ?_) (fun c7 h => ?_)
 ·cases h; exact hk
 refine br_g h rfl (fun c8 h => ?_)
 refine br_t (by first | (simp [c7]; done) | (simp; omega) | (simp only [List.length_append, List.length_cons, List.length_nil, List.length_take, List.length_drop] at c7 ⊢; simp; omega) | (simp only [List.length_append, List.length_cons, List.length_nil, List.length_take, List.length_drop] at c7; simp; omega) | (simp_all; done)) ?_
 refine br_ite h rfl (fun c9 h => ?_) (fun c9 h => ?_)
 ·cases h; exact hk
 exact (ih N (by omega)) _ _ _ _ _ h hk
theorem okc_86 (args : List (AV tau)) (m : Mem tau) (κ : AV tau → Mem tau → Option Unit) (hh : c_86 args m κ = some ()) : ∃ av m1, κ av m1 = some () ∧ ToldA Try.prog TT (pnT 86) 86 args m av m1 := by
 obtain ⟨bx_, rw_⟩ := m
 unfold c_86 at hh
 simp only at hh
 split at hh
 case h_2 => cases hh
 rename_i b0 b1
 obtain ⟨l0, hx0, hh0⟩ := bO_some hh
 obtain ⟨a1, hx1, hh1⟩ := bO_some hh0
 have ex0 := asSl_some hx0
 have ex1 := asI_some hx1
 subst ex0 ex1
 obtain ⟨N, t, h, hκ⟩ := callX_some hh1
 refine ⟨_, _, hκ, told_of_run pq okC_86 (fun _ _ _ => drawA_ok pq okC_86 hmix) (E := E_86) (fn := Try.f86) (body := B_86) (by kernel_rfl) (by kernel_rfl) (by kernel_rfl) (by rfl) (by exact Nat.le_of_ble_eq_true rfl) (fun k hk => ?_)⟩
 refine (w_86 l0 a1 k).trans ?_
 replace h : spec_l3Saw.f N l0 a1 = some t := h
 unfold spec_l3Saw.f at h
 exact (L_86 N) _ _ _ _ _ h hk
noncomputable def C_87 : Ctr tau Unit := ctrS 86 c_86 C_86
noncomputable def D_87 : Drw tau := drawA E_87 C_87
theorem okC_87 : CtrOk Try.prog TT pnT C_87 := ctrS_ok okC_86 okc_86
theorem mC_87 : CtrMono C_87 := ctrS_mono mC_86 mc_86
theorem mD_87 : DrMono D_87 := drawA_mono mC_87
noncomputable def B_87 : Code := Try.f87.body.getD .skip
theorem mc_87 (args : List (AV tau)) (m : Mem tau) (k k' : AV tau → Mem tau → Option Unit) (hk : ∀ av m, k av m = some () → k' av m = some ()) (h : c_87 args m k = some ()) : c_87 args m k' = some () := by
 unfold c_87 at h ⊢
 split at h
 · repeat' first | exact callX_mono (fun _ h => hk _ _ h) h | refine bO_mono (fun _ h => ?_) h
 · cases h
noncomputable def K_87_0 (k : AV tau → Mem tau → Option Unit) : Kon tau := (kBlock 0 (kS E_87 C_87 D_87 (codeP B_87 [1, 1]) (kEnd E_87 Try.f87 k)))
def st_87_0 (x0 : (List S82)) (x1 : Int) (x2 : Int) : St tau := ⟨tmL 20 0 [(0, .sl 82 x0), (1, .int .i64 x1), (5, .int .i64 x2)], ⟨[], []⟩⟩
noncomputable def LP_87_0 (k : AV tau → Mem tau → Option Unit) (x0 : (List S82)) (x1 : Int) (x2 : Int) : Option Unit := loopA E_87 (codeA E_87 C_87 D_87 (codeP B_87 [1, 0, 1, 0, 0])) (codeP B_87 [1, 0, 1, 0, 0]) (K_87_0 k) (st_87_0 x0 x1 x2)
theorem w_87_0 (k : AV tau → Mem tau → Option Unit) (x0 : (List S82)) (x1 : Int) (x2 : Int) : codeA E_87 C_87 D_87 (codeP B_87 [1, 0, 1, 0, 0]) (kL E_87 C_87 D_87 (codeP B_87 [1, 0, 1, 0, 0]) (K_87_0 k)) (st_87_0 x0 x1 x2) = (brA (decide (x2 < ((x0.length : Nat) : Int))) (brA (decide ((0 : Int) ≤ x2)) (brA (decide (x2 < ((x0.length : Nat) : Int))) (brA (decide ((rd_T82 x0 x2).f0 = x1)) (k (.int .i64 x2) ⟨[], []⟩) (LP_87_0 k x0 x1 (wrap64 (x2 + (1 : Int))))) (none)) (none)) (k (.int .i64 (-(1 : Int))) ⟨[], []⟩) : Option Unit) := by
 simp only [← wrapA_i64]
 kernel_rfl
theorem w_87 (l0 : List S82) (a1 : Int) (k : AV tau → Mem tau → Option Unit) : fnA E_87 C_87 D_87 Try.f87 B_87 [.sl 82 l0, .int .i64 a1] ⟨[], []⟩ k = (LP_87_0 k l0 a1 (0 : Int) : Option Unit) := by kernel_rfl
def S_87_0 (N : Nat) : Prop := ∀ (k : AV tau → Mem tau → Option Unit) (x0 : (List S82)) (x1 : Int) (x2 : Int) (r : Int), spec_l3At.l0 N (x0) (x1) (x2) = some r → k (.int .i64 (r)) ⟨[], []⟩ = some () → LP_87_0 k x0 x1 x2 = some ()
theorem L_87 (N : Nat) : S_87_0 N := by
 induction N using Nat.strongRecOn with | _ N0 ih =>
 skip
 intro k x0 x1 x2 r h hk
 rcases N0 with _ | N
 · cases h
 first | rw [spec_l3At.l0] at h | simp only [spec_l3At.l0] at h | (unfold spec_l3At.l0 at h; dsimp only at h)
 refine loop_fold mC_87 mD_87 ?_
 refine (w_87_0 k x0 x1 x2).trans ?_
 refine br_eti h rfl (fun c7 h => ?_) (fun c7 h => ?_)
 ·cases h; exact hk
 refine br_g h rfl (fun c8 h => ?_)
 refine br_t (by first | (simp [c7]; done) | (simp; omega) | (simp only [List.length_append, List.length_cons, List.length_nil, List.length_take, List.length_drop] at c7 ⊢; simp; omega) | (simp only [List.length_append, List.length_cons, List.length_nil, List.length_take, List.length_drop] at c7; simp; omega) | (simp_all; done)) ?_
 refine br_ite h rfl (fun c9 h => ?_) (fun c9 h => ?_)
 ·cases h; exact hk
 exact (ih N (by omega)) _ _ _ _ _ h hk
theorem okc_87 (args : List (AV tau)) (m : Mem tau) (κ : AV tau → Mem tau → Option Unit) (hh : c_87 args m κ = some ()) : ∃ av m1, κ av m1 = some () ∧ ToldA Try.prog TT (pnT 87) 87 args m av m1 := by
 obtain ⟨bx_, rw_⟩ := m
 unfold c_87 at hh
 simp only at hh
 split at hh
 case h_2 => cases hh
 rename_i b0 b1
 obtain ⟨l0, hx0, hh0⟩ := bO_some hh
 obtain ⟨a1, hx1, hh1⟩ := bO_some hh0
 have ex0 := asSl_some hx0
 have ex1 := asI_some hx1
 subst ex0 ex1
 obtain ⟨N, t, h, hκ⟩ := callX_some hh1
 refine ⟨_, _, hκ, told_of_run pq okC_87 (fun _ _ _ => drawA_ok pq okC_87 hmix) (E := E_87) (fn := Try.f87) (body := B_87) (by kernel_rfl) (by kernel_rfl) (by kernel_rfl) (by rfl) (by exact Nat.le_of_ble_eq_true rfl) (fun k hk => ?_)⟩
 refine (w_87 l0 a1 k).trans ?_
 replace h : spec_l3At.f N l0 a1 = some t := h
 unfold spec_l3At.f at h
 exact (L_87 N) _ _ _ _ _ h hk
noncomputable def C_175 : Ctr tau Unit := ctrS 87 c_87 C_87
noncomputable def D_175 : Drw tau := drawA E_175 C_175
theorem okC_175 : CtrOk Try.prog TT pnT C_175 := ctrS_ok okC_87 okc_87
theorem mC_175 : CtrMono C_175 := ctrS_mono mC_87 mc_87
theorem mD_175 : DrMono D_175 := drawA_mono mC_175
noncomputable def B_175 : Code := Try.f175.body.getD .skip
theorem mc_175 (args : List (AV tau)) (m : Mem tau) (k k' : AV tau → Mem tau → Option Unit) (hk : ∀ av m, k av m = some () → k' av m = some ()) (h : c_175 args m k = some ()) : c_175 args m k' = some () := by
 unfold c_175 at h ⊢
 split at h
 · repeat' first | exact callX_mono (fun _ h => hk _ _ h) h | refine bO_mono (fun _ h => ?_) h
 · cases h
theorem w_175 (l0 : List S37) (l1_0 : List S39) (l1_1 : List S82) (a1_2 : Int) (a1_3 : Int) (a2 : Int) (k : AV tau → Mem tau → Option Unit) : fnA E_175 C_175 D_175 Try.f175 B_175 [.sl 37 l0, .agg [.own 0 0, .own 1 0, .int .i64 a1_2, .int .i64 a1_3], .int .i64 a2] ⟨[], [some ⟨39, l1_0, 0⟩, some ⟨82, l1_1, 0⟩]⟩ k = (callX (fun n => spec_l3At.f n l1_1 a2) fun t0 => brA (decide (t0 ≥ (0 : Int))) (brA (decide ((0 : Int) ≤ t0)) (brA (decide (t0 < ((l1_1.length : Nat) : Int))) (k (.tup [.int .i64 ((rd_T82 l1_1 t0).f1), .agg [.own 0 0, .own 1 0, .int .i64 a1_2, .int .i64 a1_3]]) ⟨[], [some ⟨39, l1_0, 0⟩, some ⟨82, l1_1, 0⟩]⟩) (none)) (none)) (callX (fun n => spec_l3Saw.f n l1_0 a2) fun t1 => brA (!t1) (brA (decide ((0 : Int) ≤ a2)) (brA (decide (a2 < ((l0.length : Nat) : Int))) (brA (decide ((l1_0.length + 1) ≤ 8796093022208)) (brA (decide ((0 : Int) ≤ a2)) (brA (decide (a2 < ((l0.length : Nat) : Int))) (k (.tup [.int .i64 ((rd_T37 l0 a2).f1), .agg [.own 0 0, .own 1 0, .int .i64 a1_2, .int .i64 a1_3]]) ⟨[], [some ⟨39, (l1_0 ++ ([(⟨a2, (rd_T37 l0 a2).f0⟩ : S39)] : List S39)), 0⟩, some ⟨82, l1_1, 0⟩]⟩) (none)) (none)) (none)) (none)) (none)) (brA (decide ((0 : Int) ≤ a2)) (brA (decide (a2 < ((l0.length : Nat) : Int))) (k (.tup [.int .i64 ((rd_T37 l0 a2).f1), .agg [.own 0 0, .own 1 0, .int .i64 a1_2, .int .i64 a1_3]]) ⟨[], [some ⟨39, l1_0, 0⟩, some ⟨82, l1_1, 0⟩]⟩) (none)) (none))) : Option Unit) := by kernel_rfl
theorem okc_175 (args : List (AV tau)) (m : Mem tau) (κ : AV tau → Mem tau → Option Unit) (hh : c_175 args m κ = some ()) : ∃ av m1, κ av m1 = some () ∧ ToldA Try.prog TT (pnT 175) 175 args m av m1 := by
 obtain ⟨bx_, rw_⟩ := m
 unfold c_175 at hh
 simp only at hh
 split at hh
 case h_2 => cases hh
 rename_i b0 b1 b2 b3 b4 b5 r0 r1
 obtain ⟨l0, hx0, hh0⟩ := bO_some hh
 obtain ⟨u12, hx1, hh1⟩ := bO_some hh0
 obtain ⟨l1_0, hx2, hh2⟩ := bO_some hh1
 obtain ⟨u13, hx3, hh3⟩ := bO_some hh2
 obtain ⟨l1_1, hx4, hh4⟩ := bO_some hh3
 obtain ⟨a1_2, hx5, hh5⟩ := bO_some hh4
 obtain ⟨a1_3, hx6, hh6⟩ := bO_some hh5
 obtain ⟨a2, hx7, hh7⟩ := bO_some hh6
 have ex0 := asSl_some hx0
 have ex1 := asOwn_some hx1
 have ex2 := asRow_some hx2
 have ex3 := asOwn_some hx3
 have ex4 := asRow_some hx4
 have ex5 := asI_some hx5
 have ex6 := asI_some hx6
 have ex7 := asI_some hx7
 subst ex0 ex1 ex2 ex3 ex4 ex5 ex6 ex7
 obtain ⟨N, t, h, hκ⟩ := callX_some hh7
 refine ⟨_, _, hκ, told_of_run pq okC_175 (fun _ _ _ => drawA_ok pq okC_175 hmix) (E := E_175) (fn := Try.f175) (body := B_175) (by kernel_rfl) (by kernel_rfl) (by kernel_rfl) (by rfl) (by exact Nat.le_of_ble_eq_true rfl) (fun k hk => ?_)⟩
 refine (w_175 l0 l1_0 l1_1 a1_2 a1_3 a2 k).trans ?_
 replace h : spec_l3Look.f N l0 l1_0 l1_1 a1_2 a1_3 a2 = some t := h
 unfold spec_l3Look.f at h
 refine call_h N h (fun t0 e14 h => ?_)
 refine br_ite h rfl (fun c15 h => ?_) (fun c15 h => ?_)
 ·refine br_g h rfl (fun c16 h => ?_)
  refine br_g h rfl (fun c17 h => ?_)
  cases h; exact hk
 refine call_h N h (fun t1 e18 h => ?_)
 refine br_itn h (congrArg not dect) (fun c19 h => ?_) (fun c19 h => ?_)
 ·refine br_g h rfl (fun c20 h => ?_)
  refine br_g h rfl (fun c21 h => ?_)
  cases h; exact hk
 refine br_g h rfl (fun c22 h => ?_)
 refine br_g h rfl (fun c23 h => ?_)
 refine br_g h (by first | rfl | exact dect | exact (congrArg not dect) | (simp; done) | (simp [beqI]; done) | (simp; omega)) (fun c24 h => ?_)
 refine br_t (by first | (simp [c22]; done) | (simp; omega) | (simp only [List.length_append, List.length_cons, List.length_nil, List.length_take, List.length_drop] at c24 c23 ⊢; simp; omega) | (simp only [List.length_append, List.length_cons, List.length_nil, List.length_take, List.length_drop] at c24 c23; simp; omega) | (simp_all; done)) ?_
 refine br_t (by first | (simp [c23]; done) | (simp; omega) | (simp only [List.length_append, List.length_cons, List.length_nil, List.length_take, List.length_drop] at c24 c23 ⊢; simp; omega) | (simp only [List.length_append, List.length_cons, List.length_nil, List.length_take, List.length_drop] at c24 c23; simp; omega) | (simp_all; done)) ?_
 cases h; exact hk
noncomputable def C_176 : Ctr tau Unit := ctrS 175 c_175 C_175
noncomputable def D_176 : Drw tau := drawA E_176 C_176
theorem okC_176 : CtrOk Try.prog TT pnT C_176 := ctrS_ok okC_175 okc_175
theorem mC_176 : CtrMono C_176 := ctrS_mono mC_175 mc_175
theorem mD_176 : DrMono D_176 := drawA_mono mC_176
noncomputable def B_176 : Code := Try.f176.body.getD .skip
theorem mc_176 (args : List (AV tau)) (m : Mem tau) (k k' : AV tau → Mem tau → Option Unit) (hk : ∀ av m, k av m = some () → k' av m = some ()) (h : c_176 args m k = some ()) : c_176 args m k' = some () := by
 unfold c_176 at h ⊢
 split at h
 · repeat' first | exact callX_mono (fun _ h => hk _ _ h) h | refine bO_mono (fun _ h => ?_) h
 · cases h
theorem w_176 (l0_0 : List S39) (l0_1 : List S82) (a0_2 : Int) (a0_3 : Int) (a1 : Int) (a2 : Int) (k : AV tau → Mem tau → Option Unit) : fnA E_176 C_176 D_176 Try.f176 B_176 [.agg [.own 0 0, .own 1 0, .int .i64 a0_2, .int .i64 a0_3], .int .i64 a1, .int .i64 a2] ⟨[], [some ⟨39, l0_0, 0⟩, some ⟨82, l0_1, 0⟩]⟩ k = (callX (fun n => spec_l3At.f n l0_1 a1) fun t0 => brA (decide (t0 ≥ (0 : Int))) (brA (decide ((0 : Int) ≤ t0)) (brA (decide (t0 < ((l0_1.length : Nat) : Int))) (k (.agg [.own 0 0, .own 1 0, .int .i64 a0_2, .int .i64 a0_3]) ⟨[], [some ⟨39, l0_0, 0⟩, some ⟨82, (List.set l0_1 (Int.toNat t0) (⟨(rd_T82 l0_1 t0).f0, a2⟩ : S82)), 0⟩]⟩) (none)) (none)) (brA (decide ((l0_1.length + 1) ≤ 8796093022208)) (k (.agg [.own 0 0, .own 1 0, .int .i64 a0_2, .int .i64 a0_3]) ⟨[], [some ⟨39, l0_0, 0⟩, some ⟨82, (l0_1 ++ ([(⟨a1, a2⟩ : S82)] : List S82)), 0⟩]⟩) (none)) : Option Unit) := by kernel_rfl
theorem okc_176 (args : List (AV tau)) (m : Mem tau) (κ : AV tau → Mem tau → Option Unit) (hh : c_176 args m κ = some ()) : ∃ av m1, κ av m1 = some () ∧ ToldA Try.prog TT (pnT 176) 176 args m av m1 := by
 obtain ⟨bx_, rw_⟩ := m
 unfold c_176 at hh
 simp only at hh
 split at hh
 case h_2 => cases hh
 rename_i b0 b1 b2 b3 b4 b5 r0 r1
 obtain ⟨u6, hx0, hh0⟩ := bO_some hh
 obtain ⟨l0_0, hx1, hh1⟩ := bO_some hh0
 obtain ⟨u7, hx2, hh2⟩ := bO_some hh1
 obtain ⟨l0_1, hx3, hh3⟩ := bO_some hh2
 obtain ⟨a0_2, hx4, hh4⟩ := bO_some hh3
 obtain ⟨a0_3, hx5, hh5⟩ := bO_some hh4
 obtain ⟨a1, hx6, hh6⟩ := bO_some hh5
 obtain ⟨a2, hx7, hh7⟩ := bO_some hh6
 have ex0 := asOwn_some hx0
 have ex1 := asRow_some hx1
 have ex2 := asOwn_some hx2
 have ex3 := asRow_some hx3
 have ex4 := asI_some hx4
 have ex5 := asI_some hx5
 have ex6 := asI_some hx6
 have ex7 := asI_some hx7
 subst ex0 ex1 ex2 ex3 ex4 ex5 ex6 ex7
 obtain ⟨N, t, h, hκ⟩ := callX_some hh7
 refine ⟨_, _, hκ, told_of_run pq okC_176 (fun _ _ _ => drawA_ok pq okC_176 hmix) (E := E_176) (fn := Try.f176) (body := B_176) (by kernel_rfl) (by kernel_rfl) (by kernel_rfl) (by rfl) (by exact Nat.le_of_ble_eq_true rfl) (fun k hk => ?_)⟩
 refine (w_176 l0_0 l0_1 a0_2 a0_3 a1 a2 k).trans ?_
 replace h : spec_l3Put.f N l0_0 l0_1 a0_2 a0_3 a1 a2 = some t := h
 unfold spec_l3Put.f at h
 refine call_h N h (fun t0 e8 h => ?_)
 refine br_eti h rfl (fun c9 h => ?_) (fun c9 h => ?_)
 ·refine br_g h (by first | rfl | exact dect | exact (congrArg not dect) | (simp; done) | (simp [beqI]; done) | (simp; omega)) (fun c10 h => ?_)
  cases h; exact hk
 refine br_g h rfl (fun c11 h => ?_)
 refine br_g h rfl (fun c12 h => ?_)
 cases h; exact hk
noncomputable def C_166 : Ctr tau Unit := ctrS 176 c_176 C_176
noncomputable def D_166 : Drw tau := drawA E_166 C_166
theorem okC_166 : CtrOk Try.prog TT pnT C_166 := ctrS_ok okC_176 okc_176
theorem mC_166 : CtrMono C_166 := ctrS_mono mC_176 mc_176
theorem mD_166 : DrMono D_166 := drawA_mono mC_166
noncomputable def B_166 : Code := Try.f166.body.getD .skip
theorem mc_166 (args : List (AV tau)) (m : Mem tau) (k k' : AV tau → Mem tau → Option Unit) (hk : ∀ av m, k av m = some () → k' av m = some ()) (h : c_166 args m k = some ()) : c_166 args m k' = some () := by
 unfold c_166 at h ⊢
 split at h
 · repeat' first | exact callX_mono (fun _ h => hk _ _ h) h | refine bO_mono (fun _ h => ?_) h
 · cases h
theorem w_166 (l0 : List S37) (l1_0 : List S39) (l1_1 : List S82) (a1_2 : Int) (a1_3 : Int) (l2 : List Int) (a3_0 : Int) (a3_1 : Int) (a3_2 : Int) (a3_3 : Int) (k : AV tau → Mem tau → Option Unit) : fnA E_166 C_166 D_166 Try.f166 B_166 [.sl 37 l0, .agg [.own 1 0, .own 2 0, .int .i64 a1_2, .int .i64 a1_3], .own 0 0, .agg [.int .i64 a3_0, .int .i64 a3_1, .int .i64 a3_2, .int .i64 a3_3]] ⟨[], [some ⟨3, l2, 0⟩, some ⟨39, l1_0, 0⟩, some ⟨82, l1_1, 0⟩]⟩ k = (brA (decide (a3_0 = (1 : Int))) (callX (fun n => spec_l3Look.f n l0 l1_0 l1_1 a1_2 a1_3 a3_2) fun t0 => brA (decide ((0 : Int) ≤ a3_1)) (brA (decide (a3_1 < ((l2.length : Nat) : Int))) (brA (!(decide (a3_0 = (2 : Int)))) (brA (decide ((0 : Int) ≤ a3_1)) (brA (decide (a3_1 < (((List.set l2 (Int.toNat a3_1) t0.1).length : Nat) : Int))) (callX (fun n => spec_l1Num.f (rd (List.set l2 (Int.toNat a3_1) t0.1) a3_1)) fun t1 => brA (!t1) (k (.agg [.own 1 0, .own 2 0, .int .i64 t0.2.2.2.1, .int .i64 (2 : Int)]) ⟨[], [some ⟨3, (List.set l2 (Int.toNat a3_1) t0.1), 0⟩, some ⟨39, t0.2.1, 0⟩, some ⟨82, t0.2.2.1, 0⟩]⟩) (k (.agg [.own 1 0, .own 2 0, .int .i64 t0.2.2.2.1, .int .i64 t0.2.2.2.2]) ⟨[], [some ⟨3, (List.set l2 (Int.toNat a3_1) t0.1), 0⟩, some ⟨39, t0.2.1, 0⟩, some ⟨82, t0.2.2.1, 0⟩]⟩)) (none)) (none)) (k (.agg [.own 1 0, .own 2 0, .int .i64 t0.2.2.2.1, .int .i64 t0.2.2.2.2]) ⟨[], [some ⟨3, (List.set l2 (Int.toNat a3_1) t0.1), 0⟩, some ⟨39, t0.2.1, 0⟩, some ⟨82, t0.2.2.1, 0⟩]⟩)) (none)) (none)) (brA (decide (a3_0 = (2 : Int))) (brA (decide ((0 : Int) ≤ a3_2)) (brA (decide (a3_2 < ((l2.length : Nat) : Int))) (callX (fun n => spec_l3Put.f n l1_0 l1_1 a1_2 a1_3 a3_1 (rd l2 a3_2)) fun t2 => brA (!(decide (a3_0 = (2 : Int)))) (brA (decide ((0 : Int) ≤ a3_1)) (brA (decide (a3_1 < ((l2.length : Nat) : Int))) (callX (fun n => spec_l1Num.f (rd l2 a3_1)) fun t3 => brA (!t3) (k (.agg [.own 1 0, .own 2 0, .int .i64 t2.2.2.1, .int .i64 (2 : Int)]) ⟨[], [some ⟨3, l2, 0⟩, some ⟨39, t2.1, 0⟩, some ⟨82, t2.2.1, 0⟩]⟩) (k (.agg [.own 1 0, .own 2 0, .int .i64 t2.2.2.1, .int .i64 t2.2.2.2]) ⟨[], [some ⟨3, l2, 0⟩, some ⟨39, t2.1, 0⟩, some ⟨82, t2.2.1, 0⟩]⟩)) (none)) (none)) (k (.agg [.own 1 0, .own 2 0, .int .i64 t2.2.2.1, .int .i64 t2.2.2.2]) ⟨[], [some ⟨3, l2, 0⟩, some ⟨39, t2.1, 0⟩, some ⟨82, t2.2.1, 0⟩]⟩)) (none)) (none)) (brA (decide (a3_0 = (3 : Int))) (brA (decide ((0 : Int) ≤ a3_1)) (brA (decide (a3_1 < ((l2.length : Nat) : Int))) (brA (!(decide (a3_0 = (2 : Int)))) (brA (decide ((0 : Int) ≤ a3_1)) (brA (decide (a3_1 < (((List.set l2 (Int.toNat a3_1) a3_3).length : Nat) : Int))) (callX (fun n => spec_l1Num.f (rd (List.set l2 (Int.toNat a3_1) a3_3) a3_1)) fun t4 => brA (!t4) (k (.agg [.own 1 0, .own 2 0, .int .i64 a1_2, .int .i64 (2 : Int)]) ⟨[], [some ⟨3, (List.set l2 (Int.toNat a3_1) a3_3), 0⟩, some ⟨39, l1_0, 0⟩, some ⟨82, l1_1, 0⟩]⟩) (k (.agg [.own 1 0, .own 2 0, .int .i64 a1_2, .int .i64 a1_3]) ⟨[], [some ⟨3, (List.set l2 (Int.toNat a3_1) a3_3), 0⟩, some ⟨39, l1_0, 0⟩, some ⟨82, l1_1, 0⟩]⟩)) (none)) (none)) (k (.agg [.own 1 0, .own 2 0, .int .i64 a1_2, .int .i64 a1_3]) ⟨[], [some ⟨3, (List.set l2 (Int.toNat a3_1) a3_3), 0⟩, some ⟨39, l1_0, 0⟩, some ⟨82, l1_1, 0⟩]⟩)) (none)) (none)) (brA (decide (a3_0 = (4 : Int))) (brA (decide ((0 : Int) ≤ a3_1)) (brA (decide (a3_1 < ((l2.length : Nat) : Int))) (brA (decide ((0 : Int) ≤ a3_2)) (brA (decide (a3_2 < ((l2.length : Nat) : Int))) (brA (decide ((0 : Int) ≤ a3_1)) (brA (decide (a3_1 < ((l2.length : Nat) : Int))) (brA (!(decide (a3_0 = (2 : Int)))) (brA (decide ((0 : Int) ≤ a3_1)) (brA (decide (a3_1 < (((List.set l2 (Int.toNat a3_1) (wrap64 ((rd l2 a3_1) + (rd l2 a3_2)))).length : Nat) : Int))) (callX (fun n => spec_l1Num.f (rd (List.set l2 (Int.toNat a3_1) (wrap64 ((rd l2 a3_1) + (rd l2 a3_2)))) a3_1)) fun t5 => brA (!t5) (k (.agg [.own 1 0, .own 2 0, .int .i64 a1_2, .int .i64 (2 : Int)]) ⟨[], [some ⟨3, (List.set l2 (Int.toNat a3_1) (wrap64 ((rd l2 a3_1) + (rd l2 a3_2)))), 0⟩, some ⟨39, l1_0, 0⟩, some ⟨82, l1_1, 0⟩]⟩) (k (.agg [.own 1 0, .own 2 0, .int .i64 a1_2, .int .i64 a1_3]) ⟨[], [some ⟨3, (List.set l2 (Int.toNat a3_1) (wrap64 ((rd l2 a3_1) + (rd l2 a3_2)))), 0⟩, some ⟨39, l1_0, 0⟩, some ⟨82, l1_1, 0⟩]⟩)) (none)) (none)) (k (.agg [.own 1 0, .own 2 0, .int .i64 a1_2, .int .i64 a1_3]) ⟨[], [some ⟨3, (List.set l2 (Int.toNat a3_1) (wrap64 ((rd l2 a3_1) + (rd l2 a3_2)))), 0⟩, some ⟨39, l1_0, 0⟩, some ⟨82, l1_1, 0⟩]⟩)) (none)) (none)) (none)) (none)) (none)) (none)) (brA (decide (a3_0 = (5 : Int))) (brA (decide ((0 : Int) ≤ a3_1)) (brA (decide (a3_1 < ((l2.length : Nat) : Int))) (brA (decide ((0 : Int) ≤ a3_2)) (brA (decide (a3_2 < ((l2.length : Nat) : Int))) (brA (decide ((0 : Int) ≤ a3_1)) (brA (decide (a3_1 < ((l2.length : Nat) : Int))) (brA (!(decide (a3_0 = (2 : Int)))) (brA (decide ((0 : Int) ≤ a3_1)) (brA (decide (a3_1 < (((List.set l2 (Int.toNat a3_1) (wrap64 ((rd l2 a3_1) - (rd l2 a3_2)))).length : Nat) : Int))) (callX (fun n => spec_l1Num.f (rd (List.set l2 (Int.toNat a3_1) (wrap64 ((rd l2 a3_1) - (rd l2 a3_2)))) a3_1)) fun t6 => brA (!t6) (k (.agg [.own 1 0, .own 2 0, .int .i64 a1_2, .int .i64 (2 : Int)]) ⟨[], [some ⟨3, (List.set l2 (Int.toNat a3_1) (wrap64 ((rd l2 a3_1) - (rd l2 a3_2)))), 0⟩, some ⟨39, l1_0, 0⟩, some ⟨82, l1_1, 0⟩]⟩) (k (.agg [.own 1 0, .own 2 0, .int .i64 a1_2, .int .i64 a1_3]) ⟨[], [some ⟨3, (List.set l2 (Int.toNat a3_1) (wrap64 ((rd l2 a3_1) - (rd l2 a3_2)))), 0⟩, some ⟨39, l1_0, 0⟩, some ⟨82, l1_1, 0⟩]⟩)) (none)) (none)) (k (.agg [.own 1 0, .own 2 0, .int .i64 a1_2, .int .i64 a1_3]) ⟨[], [some ⟨3, (List.set l2 (Int.toNat a3_1) (wrap64 ((rd l2 a3_1) - (rd l2 a3_2)))), 0⟩, some ⟨39, l1_0, 0⟩, some ⟨82, l1_1, 0⟩]⟩)) (none)) (none)) (none)) (none)) (none)) (none)) (brA (decide (a3_0 = (7 : Int))) (brA (!(decide (a3_0 = (2 : Int)))) (brA (decide ((0 : Int) ≤ a3_1)) (brA (decide (a3_1 < ((l2.length : Nat) : Int))) (callX (fun n => spec_l1Num.f (rd l2 a3_1)) fun t7 => brA (!t7) (k (.agg [.own 1 0, .own 2 0, .int .i64 a1_2, .int .i64 (2 : Int)]) ⟨[], [some ⟨3, l2, 0⟩, some ⟨39, l1_0, 0⟩, some ⟨82, l1_1, 0⟩]⟩) (k (.agg [.own 1 0, .own 2 0, .int .i64 a1_2, .int .i64 (1 : Int)]) ⟨[], [some ⟨3, l2, 0⟩, some ⟨39, l1_0, 0⟩, some ⟨82, l1_1, 0⟩]⟩)) (none)) (none)) (k (.agg [.own 1 0, .own 2 0, .int .i64 a1_2, .int .i64 (1 : Int)]) ⟨[], [some ⟨3, l2, 0⟩, some ⟨39, l1_0, 0⟩, some ⟨82, l1_1, 0⟩]⟩)) (brA (!(decide (a3_0 = (2 : Int)))) (brA (decide ((0 : Int) ≤ a3_1)) (brA (decide (a3_1 < ((l2.length : Nat) : Int))) (callX (fun n => spec_l1Num.f (rd l2 a3_1)) fun t8 => brA (!t8) (k (.agg [.own 1 0, .own 2 0, .int .i64 a1_2, .int .i64 (2 : Int)]) ⟨[], [some ⟨3, l2, 0⟩, some ⟨39, l1_0, 0⟩, some ⟨82, l1_1, 0⟩]⟩) (k (.agg [.own 1 0, .own 2 0, .int .i64 a1_2, .int .i64 a1_3]) ⟨[], [some ⟨3, l2, 0⟩, some ⟨39, l1_0, 0⟩, some ⟨82, l1_1, 0⟩]⟩)) (none)) (none)) (k (.agg [.own 1 0, .own 2 0, .int .i64 a1_2, .int .i64 a1_3]) ⟨[], [some ⟨3, l2, 0⟩, some ⟨39, l1_0, 0⟩, some ⟨82, l1_1, 0⟩]⟩))))))) : Option Unit) := by
 simp only [← wrapA_i64]
 kernel_rfl
theorem okc_166 (args : List (AV tau)) (m : Mem tau) (κ : AV tau → Mem tau → Option Unit) (hh : c_166 args m κ = some ()) : ∃ av m1, κ av m1 = some () ∧ ToldA Try.prog TT (pnT 166) 166 args m av m1 := by
 obtain ⟨bx_, rw_⟩ := m
 unfold c_166 at hh
 simp only at hh
 split at hh
 case h_2 => cases hh
 rename_i b0 b1 b2 b3 b4 b5 b6 b7 b8 b9 r0 r1 r2
 obtain ⟨l0, hx0, hh0⟩ := bO_some hh
 obtain ⟨u58, hx1, hh1⟩ := bO_some hh0
 obtain ⟨l1_0, hx2, hh2⟩ := bO_some hh1
 obtain ⟨u59, hx3, hh3⟩ := bO_some hh2
 obtain ⟨l1_1, hx4, hh4⟩ := bO_some hh3
 obtain ⟨a1_2, hx5, hh5⟩ := bO_some hh4
 obtain ⟨a1_3, hx6, hh6⟩ := bO_some hh5
 obtain ⟨u60, hx7, hh7⟩ := bO_some hh6
 obtain ⟨l2, hx8, hh8⟩ := bO_some hh7
 obtain ⟨a3_0, hx9, hh9⟩ := bO_some hh8
 obtain ⟨a3_1, hx10, hh10⟩ := bO_some hh9
 obtain ⟨a3_2, hx11, hh11⟩ := bO_some hh10
 obtain ⟨a3_3, hx12, hh12⟩ := bO_some hh11
 have ex0 := asSl_some hx0
 have ex1 := asOwn_some hx1
 have ex2 := asRow_some hx2
 have ex3 := asOwn_some hx3
 have ex4 := asRow_some hx4
 have ex5 := asI_some hx5
 have ex6 := asI_some hx6
 have ex7 := asOwn_some hx7
 have ex8 := asRow_some hx8
 have ex9 := asI_some hx9
 have ex10 := asI_some hx10
 have ex11 := asI_some hx11
 have ex12 := asI_some hx12
 subst ex0 ex1 ex2 ex3 ex4 ex5 ex6 ex7 ex8 ex9 ex10 ex11 ex12
 obtain ⟨N, t, h, hκ⟩ := callX_some hh12
 refine ⟨_, _, hκ, told_of_run pq okC_166 (fun _ _ _ => drawA_ok pq okC_166 hmix) (E := E_166) (fn := Try.f166) (body := B_166) (by kernel_rfl) (by kernel_rfl) (by kernel_rfl) (by rfl) (by exact Nat.le_of_ble_eq_true rfl) (fun k hk => ?_)⟩
 refine (w_166 l0 l1_0 l1_1 a1_2 a1_3 l2 a3_0 a3_1 a3_2 a3_3 k).trans ?_
 replace h : spec_l3Step.f N l0 l1_0 l1_1 a1_2 a1_3 l2 a3_0 a3_1 a3_2 a3_3 = some t := h
 unfold spec_l3Step.f at h
 refine br_ite h rfl (fun c61 h => ?_) (fun c61 h => ?_)
 ·refine call_h N h (fun t0 e62 h => ?_)
  refine br_g h rfl (fun c63 h => ?_)
  refine br_g h rfl (fun c64 h => ?_)
  rcases N with _ | N
  · cases h
  first | rw [spec_l3Step.j0] at h | simp only [spec_l3Step.j0] at h | (unfold spec_l3Step.j0 at h; dsimp only at h)
  refine br_itn h rfl (fun c65 h => ?_) (fun c65 h => ?_)
  ·cases h; exact hk
  refine br_g h rfl (fun c66 h => ?_)
  refine br_g h rfl (fun c67 h => ?_)
  refine call_h 0 h (fun t1 e68 h => ?_)
  refine br_etn h (congrArg not dect) (fun c69 h => ?_) (fun c69 h => ?_)
  ·cases h; exact hk
  cases h; exact hk
 refine br_ite h rfl (fun c70 h => ?_) (fun c70 h => ?_)
 ·refine br_g h rfl (fun c71 h => ?_)
  refine br_g h rfl (fun c72 h => ?_)
  refine call_h N h (fun t2 e73 h => ?_)
  rcases N with _ | N
  · cases h
  first | rw [spec_l3Step.j0] at h | simp only [spec_l3Step.j0] at h | (unfold spec_l3Step.j0 at h; dsimp only at h)
  refine br_itn h rfl (fun c74 h => ?_) (fun c74 h => ?_)
  ·cases h; exact hk
  refine br_g h rfl (fun c75 h => ?_)
  refine br_g h rfl (fun c76 h => ?_)
  refine call_h 0 h (fun t3 e77 h => ?_)
  refine br_etn h (congrArg not dect) (fun c78 h => ?_) (fun c78 h => ?_)
  ·cases h; exact hk
  cases h; exact hk
 refine br_ite h rfl (fun c79 h => ?_) (fun c79 h => ?_)
 ·refine br_g h rfl (fun c80 h => ?_)
  refine br_g h rfl (fun c81 h => ?_)
  rcases N with _ | N
  · cases h
  first | rw [spec_l3Step.j0] at h | simp only [spec_l3Step.j0] at h | (unfold spec_l3Step.j0 at h; dsimp only at h)
  refine br_itn h rfl (fun c82 h => ?_) (fun c82 h => ?_)
  ·cases h; exact hk
  refine br_g h rfl (fun c83 h => ?_)
  refine br_g h rfl (fun c84 h => ?_)
  refine call_h 0 h (fun t4 e85 h => ?_)
  refine br_etn h (congrArg not dect) (fun c86 h => ?_) (fun c86 h => ?_)
  ·cases h; exact hk
  cases h; exact hk
 refine br_ite h rfl (fun c87 h => ?_) (fun c87 h => ?_)
 ·refine br_g h rfl (fun c88 h => ?_)
  refine br_g h rfl (fun c89 h => ?_)
  refine br_g h rfl (fun c90 h => ?_)
  refine br_g h rfl (fun c91 h => ?_)
  rcases N with _ | N
  · cases h
  first | rw [spec_l3Step.j0] at h | simp only [spec_l3Step.j0] at h | (unfold spec_l3Step.j0 at h; dsimp only at h)
  refine br_t (by first | (simp [c88]; done) | (simp; omega) | (simp only [List.length_append, List.length_cons, List.length_nil, List.length_take, List.length_drop] at c91 c89 ⊢; simp; omega) | (simp only [List.length_append, List.length_cons, List.length_nil, List.length_take, List.length_drop] at c91 c89; simp; omega) | (simp_all; done)) ?_
  refine br_t (by first | (simp [c89]; done) | (simp; omega) | (simp only [List.length_append, List.length_cons, List.length_nil, List.length_take, List.length_drop] at c91 c89 ⊢; simp; omega) | (simp only [List.length_append, List.length_cons, List.length_nil, List.length_take, List.length_drop] at c91 c89; simp; omega) | (simp_all; done)) ?_
  refine br_itn h rfl (fun c92 h => ?_) (fun c92 h => ?_)
  ·cases h; exact hk
  refine br_g h rfl (fun c93 h => ?_)
  refine br_g h rfl (fun c94 h => ?_)
  refine call_h 0 h (fun t5 e95 h => ?_)
  refine br_etn h (congrArg not dect) (fun c96 h => ?_) (fun c96 h => ?_)
  ·cases h; exact hk
  cases h; exact hk
 refine br_ite h rfl (fun c97 h => ?_) (fun c97 h => ?_)
 ·refine br_g h rfl (fun c98 h => ?_)
  refine br_g h rfl (fun c99 h => ?_)
  refine br_g h rfl (fun c100 h => ?_)
  refine br_g h rfl (fun c101 h => ?_)
  rcases N with _ | N
  · cases h
  first | rw [spec_l3Step.j0] at h | simp only [spec_l3Step.j0] at h | (unfold spec_l3Step.j0 at h; dsimp only at h)
  refine br_t (by first | (simp [c98]; done) | (simp; omega) | (simp only [List.length_append, List.length_cons, List.length_nil, List.length_take, List.length_drop] at c101 c99 ⊢; simp; omega) | (simp only [List.length_append, List.length_cons, List.length_nil, List.length_take, List.length_drop] at c101 c99; simp; omega) | (simp_all; done)) ?_
  refine br_t (by first | (simp [c99]; done) | (simp; omega) | (simp only [List.length_append, List.length_cons, List.length_nil, List.length_take, List.length_drop] at c101 c99 ⊢; simp; omega) | (simp only [List.length_append, List.length_cons, List.length_nil, List.length_take, List.length_drop] at c101 c99; simp; omega) | (simp_all; done)) ?_
  refine br_itn h rfl (fun c102 h => ?_) (fun c102 h => ?_)
  ·cases h; exact hk
  refine br_g h rfl (fun c103 h => ?_)
  refine br_g h rfl (fun c104 h => ?_)
  refine call_h 0 h (fun t6 e105 h => ?_)
  refine br_etn h (congrArg not dect) (fun c106 h => ?_) (fun c106 h => ?_)
  ·cases h; exact hk
  cases h; exact hk
 refine br_ite h rfl (fun c107 h => ?_) (fun c107 h => ?_)
 ·rcases N with _ | N
  · cases h
  first | rw [spec_l3Step.j0] at h | simp only [spec_l3Step.j0] at h | (unfold spec_l3Step.j0 at h; dsimp only at h)
  refine br_itn h rfl (fun c108 h => ?_) (fun c108 h => ?_)
  ·cases h; exact hk
  refine br_g h rfl (fun c109 h => ?_)
  refine br_g h rfl (fun c110 h => ?_)
  refine call_h 0 h (fun t7 e111 h => ?_)
  refine br_etn h (congrArg not dect) (fun c112 h => ?_) (fun c112 h => ?_)
  ·cases h; exact hk
  cases h; exact hk
 rcases N with _ | N
 · cases h
 first | rw [spec_l3Step.j0] at h | simp only [spec_l3Step.j0] at h | (unfold spec_l3Step.j0 at h; dsimp only at h)
 refine br_itn h rfl (fun c113 h => ?_) (fun c113 h => ?_)
 ·cases h; exact hk
 refine br_g h rfl (fun c114 h => ?_)
 refine br_g h rfl (fun c115 h => ?_)
 refine call_h 0 h (fun t8 e116 h => ?_)
 refine br_etn h (congrArg not dect) (fun c117 h => ?_) (fun c117 h => ?_)
 ·cases h; exact hk
 cases h; exact hk
noncomputable def C_144 : Ctr tau Unit := ctrS 166 c_166 C_166
noncomputable def D_144 : Drw tau := drawA E_144 C_144
theorem okC_144 : CtrOk Try.prog TT pnT C_144 := ctrS_ok okC_166 okc_166
theorem mC_144 : CtrMono C_144 := ctrS_mono mC_166 mc_166
theorem mD_144 : DrMono D_144 := drawA_mono mC_144
noncomputable def B_144 : Code := Try.f144.body.getD .skip
theorem mc_144 (args : List (AV tau)) (m : Mem tau) (k k' : AV tau → Mem tau → Option Unit) (hk : ∀ av m, k av m = some () → k' av m = some ()) (h : c_144 args m k = some ()) : c_144 args m k' = some () := by
 unfold c_144 at h ⊢
 split at h
 · repeat' first | exact callX_mono (fun _ h => hk _ _ h) h | refine bO_mono (fun _ h => ?_) h
 · cases h
noncomputable def K_144_0 (k : AV tau → Mem tau → Option Unit) : Kon tau := (kBlock 0 (kS E_144 C_144 D_144 (codeP B_144 [1, 1, 1, 1, 1]) (kEnd E_144 Try.f144 k)))
def st_144_0 (x0 : (List S37)) (x1 : (List S95)) (x2 : Int) (x3 : Int) (x4 : Int) (x5 : Int) (x6 : Int) (x7 : (List Int)) (x8 : (List S39)) (x9 : (List S82)) (x10 : (List S39)) (x11 : (List S82)) : St tau := ⟨tmL 68 0 [(0, .sl 37 x0), (1, .sl 95 x1), (4, .ptr 0 0), (5, .ptr 1 0), (6, .own 0 0), (7, .int .i64 x2)], ⟨[some (26, [.own 1 0, .own 2 0, .int .i64 x3, .int .i64 x4]), some (26, [.own 3 0, .own 4 0, .int .i64 x5, .int .i64 x6])], [some ⟨3, x7, 0⟩, some ⟨39, x8, 0⟩, some ⟨82, x9, 0⟩, some ⟨39, x10, 0⟩, some ⟨82, x11, 0⟩]⟩⟩
noncomputable def LP_144_0 (k : AV tau → Mem tau → Option Unit) (x0 : (List S37)) (x1 : (List S95)) (x2 : Int) (x3 : Int) (x4 : Int) (x5 : Int) (x6 : Int) (x7 : (List Int)) (x8 : (List S39)) (x9 : (List S82)) (x10 : (List S39)) (x11 : (List S82)) : Option Unit := loopA E_144 (codeA E_144 C_144 D_144 (codeP B_144 [1, 1, 1, 1, 0, 1, 0, 0])) (codeP B_144 [1, 1, 1, 1, 0, 1, 0, 0]) (K_144_0 k) (st_144_0 x0 x1 x2 x3 x4 x5 x6 x7 x8 x9 x10 x11)
theorem w_144_0 (k : AV tau → Mem tau → Option Unit) (x0 : (List S37)) (x1 : (List S95)) (x2 : Int) (x3 : Int) (x4 : Int) (x5 : Int) (x6 : Int) (x7 : (List Int)) (x8 : (List S39)) (x9 : (List S82)) (x10 : (List S39)) (x11 : (List S82)) : codeA E_144 C_144 D_144 (codeP B_144 [1, 1, 1, 1, 0, 1, 0, 0]) (kL E_144 C_144 D_144 (codeP B_144 [1, 1, 1, 1, 0, 1, 0, 0]) (K_144_0 k)) (st_144_0 x0 x1 x2 x3 x4 x5 x6 x7 x8 x9 x10 x11) = (brA (decide (x2 < ((x1.length : Nat) : Int))) (brA (decide (x6 = (0 : Int))) (brA (decide ((0 : Int) ≤ x2)) (brA (decide (x2 < ((x1.length : Nat) : Int))) (brA (decide ((rd_T95 x1 x2).f0 = (6 : Int))) (brA (decide ((0 : Int) ≤ (rd_T95 x1 x2).f1)) (brA (decide ((rd_T95 x1 x2).f1 < ((x7.length : Nat) : Int))) (brA (decide ((0 : Int) ≤ (rd_T95 x1 x2).f2)) (brA (decide ((rd_T95 x1 x2).f2 < ((x7.length : Nat) : Int))) (brA (decide ((rd x7 ((rd_T95 x1 x2).f1)) < (rd x7 ((rd_T95 x1 x2).f2)))) (LP_144_0 k x0 x1 (wrap64 ((wrap64 (x2 + (rd_T95 x1 x2).f3)) + (1 : Int))) x3 x4 x5 x6 x7 x8 x9 x10 x11) (LP_144_0 k x0 x1 (wrap64 (x2 + (1 : Int))) x3 x4 x5 x6 x7 x8 x9 x10 x11)) (none)) (none)) (none)) (none)) (callX (fun n => spec_l3Step.f n x0 x10 x11 x5 x6 x7 ((rd_T95 x1 x2).f0) ((rd_T95 x1 x2).f1) ((rd_T95 x1 x2).f2) ((rd_T95 x1 x2).f3)) fun t2 => LP_144_0 k x0 x1 (wrap64 (x2 + (1 : Int))) x3 x4 t2.2.2.1 t2.2.2.2.1 t2.2.2.2.2 x8 x9 t2.1 t2.2.1)) (none)) (none)) (brA (!(decide (x6 = (0 : Int)))) (k (.agg [.own 0 0, .own 1 0, .int .i64 x5, .int .i64 x6]) ⟨[], [some ⟨39, x10, 0⟩, some ⟨82, ([] : List S82), 0⟩]⟩) (brA (decide ((0 : Int) < ((x7.length : Nat) : Int))) (k (.agg [.own 0 0, .own 1 0, .int .i64 (rd x7 (0 : Int)), .int .i64 x6]) ⟨[], [some ⟨39, x10, 0⟩, some ⟨82, x11, 0⟩]⟩) (none)))) (brA (!(decide (x6 = (0 : Int)))) (k (.agg [.own 0 0, .own 1 0, .int .i64 x5, .int .i64 x6]) ⟨[], [some ⟨39, x10, 0⟩, some ⟨82, ([] : List S82), 0⟩]⟩) (brA (decide ((0 : Int) < ((x7.length : Nat) : Int))) (k (.agg [.own 0 0, .own 1 0, .int .i64 (rd x7 (0 : Int)), .int .i64 x6]) ⟨[], [some ⟨39, x10, 0⟩, some ⟨82, x11, 0⟩]⟩) (none))) : Option Unit) := by
 simp only [← wrapA_i64]
 kernel_rfl
theorem w_144 (l0 : List S37) (l1 : List S95) (k : AV tau → Mem tau → Option Unit) : fnA E_144 C_144 D_144 Try.f144 B_144 [.sl 37 l0, .sl 95 l1] ⟨[], []⟩ k = (callX (fun n => spec_BoxOk.f n l0) fun t0 => brA (!t0) (k (.agg [.own 0 0, .own 1 0, .int .i64 (0 : Int), .int .i64 (3 : Int)]) ⟨[], [some ⟨39, ([] : List S39), 0⟩, some ⟨82, ([] : List S82), 0⟩]⟩) (callX (fun n => spec_ProgOk.f n l1) fun t1 => brA (!t1) (k (.agg [.own 0 0, .own 1 0, .int .i64 (0 : Int), .int .i64 (3 : Int)]) ⟨[], [some ⟨39, ([] : List S39), 0⟩, some ⟨82, ([] : List S82), 0⟩]⟩) (LP_144_0 k l0 l1 (0 : Int) (0 : Int) (0 : Int) (0 : Int) (0 : Int) ([(0 : Int), (0 : Int), (0 : Int), (0 : Int)] : List Int) ([] : List S39) ([] : List S82) ([] : List S39) ([] : List S82))) : Option Unit) := by kernel_rfl
def S_144_0 (N : Nat) : Prop := ∀ (k : AV tau → Mem tau → Option Unit) (x0 : (List S37)) (x1 : (List S95)) (x2 : Int) (x3 : Int) (x4 : Int) (x5 : Int) (x6 : Int) (x7 : (List Int)) (x8 : (List S39)) (x9 : (List S82)) (x10 : (List S39)) (x11 : (List S82)) (r : (List (S39)) × (List (S82)) × Int × Int), spec_ExecRun.l0 N (x0) (x1) (x7) (x2) (x10) (x11) (x5) (x6) = some r → k (.agg [.own 0 0, .own 1 0, .int .i64 (r.2.2.1), .int .i64 (r.2.2.2)]) ⟨[], [some ⟨39, r.1, 0⟩, some ⟨82, r.2.1, 0⟩]⟩ = some () → LP_144_0 k x0 x1 x2 x3 x4 x5 x6 x7 x8 x9 x10 x11 = some ()
theorem L_144 (N : Nat) : S_144_0 N := by
 induction N using Nat.strongRecOn with | _ N0 ih =>
 skip
 intro k x0 x1 x2 x3 x4 x5 x6 x7 x8 x9 x10 x11 r h hk
 rcases N0 with _ | N
 · cases h
 first | rw [spec_ExecRun.l0] at h | simp only [spec_ExecRun.l0] at h | (unfold spec_ExecRun.l0 at h; dsimp only at h)
 refine loop_fold mC_144 mD_144 ?_
 refine (w_144_0 k x0 x1 x2 x3 x4 x5 x6 x7 x8 x9 x10 x11).trans ?_
 refine br_eti h rfl (fun c55 h => ?_) (fun c55 h => ?_)
 ·rcases N with _ | N
  · cases h
  first | rw [spec_ExecRun.j2] at h | simp only [spec_ExecRun.j2] at h | (unfold spec_ExecRun.j2 at h; dsimp only at h)
  replace h := ite_f h (by first | assumption | omega | simp_all)
  refine br_etn h rfl (fun c56 h => ?_) (fun c56 h => ?_)
  ·cases h; exact hk
  refine br_g h rfl (fun c57 h => ?_)
  cases h; exact hk
 rcases N with _ | N
 · cases h
 first | rw [spec_ExecRun.j2] at h | simp only [spec_ExecRun.j2] at h | (unfold spec_ExecRun.j2 at h; dsimp only at h)
 refine br_eti h (by first | rfl | exact dect | exact (congrArg not dect) | (simp; done) | (simp [beqI]; done) | (simp; omega)) (fun c58 h => ?_) (fun c58 h => ?_)
 ·refine br_etn h rfl (fun c59 h => ?_) (fun c59 h => ?_)
  ·cases h; exact hk
  refine br_g h rfl (fun c60 h => ?_)
  cases h; exact hk
 refine br_g h rfl (fun c61 h => ?_)
 refine br_g h rfl (fun c62 h => ?_)
 refine br_eti h rfl (fun c63 h => ?_) (fun c63 h => ?_)
 ·refine call_h N h (fun t2 e64 h => ?_)
  exact (ih N (by omega)) _ _ _ _ _ _ _ _ _ _ _ _ _ _ h hk
 refine br_g h rfl (fun c65 h => ?_)
 refine br_g h rfl (fun c66 h => ?_)
 refine br_g h rfl (fun c67 h => ?_)
 refine br_g h rfl (fun c68 h => ?_)
 refine br_eti h rfl (fun c69 h => ?_) (fun c69 h => ?_)
 ·exact (ih N (by omega)) _ _ _ _ _ _ _ _ _ _ _ _ _ _ h hk
 exact (ih N (by omega)) _ _ _ _ _ _ _ _ _ _ _ _ _ _ h hk
theorem okc_144 (args : List (AV tau)) (m : Mem tau) (κ : AV tau → Mem tau → Option Unit) (hh : c_144 args m κ = some ()) : ∃ av m1, κ av m1 = some () ∧ ToldA Try.prog TT (pnT 144) 144 args m av m1 := by
 obtain ⟨bx_, rw_⟩ := m
 unfold c_144 at hh
 simp only at hh
 split at hh
 case h_2 => cases hh
 rename_i b0 b1
 obtain ⟨l0, hx0, hh0⟩ := bO_some hh
 obtain ⟨l1, hx1, hh1⟩ := bO_some hh0
 have ex0 := asSl_some hx0
 have ex1 := asSl_some hx1
 subst ex0 ex1
 obtain ⟨N, t, h, hκ⟩ := callX_some hh1
 refine ⟨_, _, hκ, told_of_run pq okC_144 (fun _ _ _ => drawA_ok pq okC_144 hmix) (E := E_144) (fn := Try.f144) (body := B_144) (by kernel_rfl) (by kernel_rfl) (by kernel_rfl) (by rfl) (by exact Nat.le_of_ble_eq_true rfl) (fun k hk => ?_)⟩
 refine (w_144 l0 l1 k).trans ?_
 replace h : spec_ExecRun.f N l0 l1 = some t := h
 unfold spec_ExecRun.f at h
 refine call_h N h (fun t0 e70 h => ?_)
 refine br_etn h (congrArg not dect) (fun c71 h => ?_) (fun c71 h => ?_)
 ·rcases N with _ | N
  · cases h
  first | rw [spec_ExecRun.j0] at h | simp only [spec_ExecRun.j0] at h | (unfold spec_ExecRun.j0 at h; dsimp only at h)
  replace h := ite_t h (by first | assumption | omega | simp_all)
  cases h; exact hk
 refine call_h N h (fun t1 e72 h => ?_)
 rcases N with _ | N
 · cases h
 first | rw [spec_ExecRun.j0] at h | simp only [spec_ExecRun.j0] at h | (unfold spec_ExecRun.j0 at h; dsimp only at h)
 refine br_eti h dect (fun c73 h => ?_) (fun c73 h => ?_)
 ·replace h := ite_t h (by first | assumption | omega | simp_all)
  exact (L_144 N) _ _ _ _ _ _ _ _ _ _ _ _ _ _ h hk
 cases h; exact hk
noncomputable def C_167 : Ctr tau Unit := ctrS 144 c_144 C_144
noncomputable def D_167 : Drw tau := drawA E_167 C_167
theorem okC_167 : CtrOk Try.prog TT pnT C_167 := ctrS_ok okC_144 okc_144
theorem mC_167 : CtrMono C_167 := ctrS_mono mC_144 mc_144
theorem mD_167 : DrMono D_167 := drawA_mono mC_167
noncomputable def B_167 : Code := Try.f167.body.getD .skip
theorem mc_167 (args : List (AV tau)) (m : Mem tau) (k k' : AV tau → Mem tau → Option Unit) (hk : ∀ av m, k av m = some () → k' av m = some ()) (h : c_167 args m k = some ()) : c_167 args m k' = some () := by
 unfold c_167 at h ⊢
 split at h
 · repeat' first | exact callX_mono (fun _ h => hk _ _ h) h | refine bO_mono (fun _ h => ?_) h
 · cases h
theorem w_167 (a0 : Int) (a1 : Int) (k : AV tau → Mem tau → Option Unit) : fnA E_167 C_167 D_167 Try.f167 B_167 [.int .i64 a0, .int .i64 a1] ⟨[], []⟩ k = (brA (decide (a0 < a1)) (k (.int .i64 a0) ⟨[], []⟩) (k (.int .i64 a1) ⟨[], []⟩) : Option Unit) := by kernel_rfl
theorem okc_167 (args : List (AV tau)) (m : Mem tau) (κ : AV tau → Mem tau → Option Unit) (hh : c_167 args m κ = some ()) : ∃ av m1, κ av m1 = some () ∧ ToldA Try.prog TT (pnT 167) 167 args m av m1 := by
 obtain ⟨bx_, rw_⟩ := m
 unfold c_167 at hh
 simp only at hh
 split at hh
 case h_2 => cases hh
 rename_i b0 b1
 obtain ⟨a0, hx0, hh0⟩ := bO_some hh
 obtain ⟨a1, hx1, hh1⟩ := bO_some hh0
 have ex0 := asI_some hx0
 have ex1 := asI_some hx1
 subst ex0 ex1
 obtain ⟨N, t, h, hκ⟩ := callX_some hh1
 refine ⟨_, _, hκ, told_of_run pq okC_167 (fun _ _ _ => drawA_ok pq okC_167 hmix) (E := E_167) (fn := Try.f167) (body := B_167) (by kernel_rfl) (by kernel_rfl) (by kernel_rfl) (by rfl) (by exact Nat.le_of_ble_eq_true rfl) (fun k hk => ?_)⟩
 refine (w_167 a0 a1 k).trans ?_
 replace h : spec_l1Min.f a0 a1 = some t := h
 unfold spec_l1Min.f at h
 refine br_ite h rfl (fun c2 h => ?_) (fun c2 h => ?_)
 ·cases h; exact hk
 cases h; exact hk
noncomputable def C_146 : Ctr tau Unit := ctrS 167 c_167 C_167
noncomputable def D_146 : Drw tau := drawA E_146 C_146
theorem okC_146 : CtrOk Try.prog TT pnT C_146 := ctrS_ok okC_167 okc_167
theorem mC_146 : CtrMono C_146 := ctrS_mono mC_167 mc_167
theorem mD_146 : DrMono D_146 := drawA_mono mC_146
noncomputable def B_146 : Code := Try.f146.body.getD .skip
theorem mc_146 (args : List (AV tau)) (m : Mem tau) (k k' : AV tau → Mem tau → Option Unit) (hk : ∀ av m, k av m = some () → k' av m = some ()) (h : c_146 args m k = some ()) : c_146 args m k' = some () := by
 unfold c_146 at h ⊢
 split at h
 · repeat' first | exact callX_mono (fun _ h => hk _ _ h) h | refine bO_mono (fun _ h => ?_) h
 · cases h
noncomputable def K_146_0 (k : AV tau → Mem tau → Option Unit) : Kon tau := (kBlock 0 (kS E_146 C_146 D_146 (codeP B_146 [1, 1]) (kEnd E_146 Try.f146 k)))
def st_146_0 (x0 : Int) (x1 : (List S39)) (x2 : (List S82)) (x3 : Int) (x4 : Int) (x5 : (List S37)) : St tau := ⟨tmL 38 0 [(0, .own 0 0), (3, .ptr 0 0), (5, .int .i64 x0)], ⟨[some (26, [.sl 39 x1, .sl 82 x2, .int .i64 x3, .int .i64 x4])], [some ⟨37, x5, 0⟩]⟩⟩
noncomputable def LP_146_0 (k : AV tau → Mem tau → Option Unit) (x0 : Int) (x1 : (List S39)) (x2 : (List S82)) (x3 : Int) (x4 : Int) (x5 : (List S37)) : Option Unit := loopA E_146 (codeA E_146 C_146 D_146 (codeP B_146 [1, 0, 1, 0, 0])) (codeP B_146 [1, 0, 1, 0, 0]) (K_146_0 k) (st_146_0 x0 x1 x2 x3 x4 x5)
theorem w_146_0 (k : AV tau → Mem tau → Option Unit) (x0 : Int) (x1 : (List S39)) (x2 : (List S82)) (x3 : Int) (x4 : Int) (x5 : (List S37)) : codeA E_146 C_146 D_146 (codeP B_146 [1, 0, 1, 0, 0]) (kL E_146 C_146 D_146 (codeP B_146 [1, 0, 1, 0, 0]) (K_146_0 k)) (st_146_0 x0 x1 x2 x3 x4 x5) = (brA (decide (x0 < ((x2.length : Nat) : Int))) (brA (decide ((0 : Int) ≤ x0)) (brA (decide (x0 < ((x2.length : Nat) : Int))) (brA (decide ((0 : Int) ≤ (rd_T82 x2 x0).f0)) (brA (decide ((rd_T82 x2 x0).f0 < ((x5.length : Nat) : Int))) (brA (decide ((0 : Int) ≤ x0)) (brA (decide (x0 < ((x2.length : Nat) : Int))) (callX (fun n => spec_l1Min.f (1000000 : Int) (wrap64 ((rd_T37 x5 ((rd_T82 x2 x0).f0)).f0 + (1 : Int)))) fun t0 => brA (decide ((0 : Int) ≤ (rd_T82 x2 x0).f0)) (brA (decide ((rd_T82 x2 x0).f0 < ((x5.length : Nat) : Int))) (LP_146_0 k (wrap64 (x0 + (1 : Int))) x1 x2 x3 x4 (List.set x5 (Int.toNat ((rd_T82 x2 x0).f0)) (⟨t0, (rd_T82 x2 x0).f1⟩ : S37))) (none)) (none)) (none)) (none)) (none)) (none)) (none)) (none)) (k (.own 0 0) ⟨[], [some ⟨37, x5, 0⟩]⟩) : Option Unit) := by
 simp only [← wrapA_i64]
 kernel_rfl
theorem w_146 (l0 : List S37) (l1_0 : List S39) (l1_1 : List S82) (a1_2 : Int) (a1_3 : Int) (k : AV tau → Mem tau → Option Unit) : fnA E_146 C_146 D_146 Try.f146 B_146 [.own 0 0, .agg [.sl 39 l1_0, .sl 82 l1_1, .int .i64 a1_2, .int .i64 a1_3]] ⟨[], [some ⟨37, l0, 0⟩]⟩ k = (LP_146_0 k (0 : Int) l1_0 l1_1 a1_2 a1_3 l0 : Option Unit) := by kernel_rfl
def S_146_0 (N : Nat) : Prop := ∀ (k : AV tau → Mem tau → Option Unit) (x0 : Int) (x1 : (List S39)) (x2 : (List S82)) (x3 : Int) (x4 : Int) (x5 : (List S37)) (r : (List (S37))), spec_l3Do.l0 N (x5) (x0) (x1) (x2) (x3) (x4) = some r → k (.own 0 0) ⟨[], [some ⟨37, r, 0⟩]⟩ = some () → LP_146_0 k x0 x1 x2 x3 x4 x5 = some ()
theorem L_146 (N : Nat) : S_146_0 N := by
 induction N using Nat.strongRecOn with | _ N0 ih =>
 skip
 intro k x0 x1 x2 x3 x4 x5 r h hk
 rcases N0 with _ | N
 · cases h
 first | rw [spec_l3Do.l0] at h | simp only [spec_l3Do.l0] at h | (unfold spec_l3Do.l0 at h; dsimp only at h)
 refine loop_fold mC_146 mD_146 ?_
 refine (w_146_0 k x0 x1 x2 x3 x4 x5).trans ?_
 refine br_eti h rfl (fun c11 h => ?_) (fun c11 h => ?_)
 ·cases h; exact hk
 refine br_g h rfl (fun c12 h => ?_)
 refine br_t (by first | (simp [c11]; done) | (simp; omega) | (simp only [List.length_append, List.length_cons, List.length_nil, List.length_take, List.length_drop] at c11 ⊢; simp; omega) | (simp only [List.length_append, List.length_cons, List.length_nil, List.length_take, List.length_drop] at c11; simp; omega) | (simp_all; done)) ?_
 refine br_g h rfl (fun c13 h => ?_)
 refine br_g h rfl (fun c14 h => ?_)
 refine br_t (by first | (simp [c12]; done) | (simp; omega) | (simp only [List.length_append, List.length_cons, List.length_nil, List.length_take, List.length_drop] at c14 c11 ⊢; simp; omega) | (simp only [List.length_append, List.length_cons, List.length_nil, List.length_take, List.length_drop] at c14 c11; simp; omega) | (simp_all; done)) ?_
 refine br_t (by first | (simp [c11]; done) | (simp; omega) | (simp only [List.length_append, List.length_cons, List.length_nil, List.length_take, List.length_drop] at c14 c11 ⊢; simp; omega) | (simp only [List.length_append, List.length_cons, List.length_nil, List.length_take, List.length_drop] at c14 c11; simp; omega) | (simp_all; done)) ?_
 refine call_h 0 h (fun t0 e15 h => ?_)
 refine br_t (by first | (simp [c13]; done) | (simp; omega) | (simp only [List.length_append, List.length_cons, List.length_nil, List.length_take, List.length_drop] at c14 c11 ⊢; simp; omega) | (simp only [List.length_append, List.length_cons, List.length_nil, List.length_take, List.length_drop] at c14 c11; simp; omega) | (simp_all; done)) ?_
 refine br_t (by first | (simp [c14]; done) | (simp; omega) | (simp only [List.length_append, List.length_cons, List.length_nil, List.length_take, List.length_drop] at c14 c11 ⊢; simp; omega) | (simp only [List.length_append, List.length_cons, List.length_nil, List.length_take, List.length_drop] at c14 c11; simp; omega) | (simp_all; done)) ?_
 exact (ih N (by omega)) _ _ _ _ _ _ _ _ h hk
theorem okc_146 (args : List (AV tau)) (m : Mem tau) (κ : AV tau → Mem tau → Option Unit) (hh : c_146 args m κ = some ()) : ∃ av m1, κ av m1 = some () ∧ ToldA Try.prog TT (pnT 146) 146 args m av m1 := by
 obtain ⟨bx_, rw_⟩ := m
 unfold c_146 at hh
 simp only at hh
 split at hh
 case h_2 => cases hh
 rename_i b0 b1 b2 b3 b4 r0
 obtain ⟨u16, hx0, hh0⟩ := bO_some hh
 obtain ⟨l0, hx1, hh1⟩ := bO_some hh0
 obtain ⟨l1_0, hx2, hh2⟩ := bO_some hh1
 obtain ⟨l1_1, hx3, hh3⟩ := bO_some hh2
 obtain ⟨a1_2, hx4, hh4⟩ := bO_some hh3
 obtain ⟨a1_3, hx5, hh5⟩ := bO_some hh4
 have ex0 := asOwn_some hx0
 have ex1 := asRow_some hx1
 have ex2 := asSl_some hx2
 have ex3 := asSl_some hx3
 have ex4 := asI_some hx4
 have ex5 := asI_some hx5
 subst ex0 ex1 ex2 ex3 ex4 ex5
 obtain ⟨N, t, h, hκ⟩ := callX_some hh5
 refine ⟨_, _, hκ, told_of_run pq okC_146 (fun _ _ _ => drawA_ok pq okC_146 hmix) (E := E_146) (fn := Try.f146) (body := B_146) (by kernel_rfl) (by kernel_rfl) (by kernel_rfl) (by rfl) (by exact Nat.le_of_ble_eq_true rfl) (fun k hk => ?_)⟩
 refine (w_146 l0 l1_0 l1_1 a1_2 a1_3 k).trans ?_
 replace h : spec_l3Do.f N l0 l1_0 l1_1 a1_2 a1_3 = some t := h
 unfold spec_l3Do.f at h
 exact (L_146 N) _ _ _ _ _ _ _ _ h hk
noncomputable def C_90 : Ctr tau Unit := ctrS 146 c_146 C_146
noncomputable def D_90 : Drw tau := drawA E_90 C_90
theorem okC_90 : CtrOk Try.prog TT pnT C_90 := ctrS_ok okC_146 okc_146
theorem mC_90 : CtrMono C_90 := ctrS_mono mC_146 mc_146
theorem mD_90 : DrMono D_90 := drawA_mono mC_90
noncomputable def B_90 : Code := Try.f90.body.getD .skip
theorem mc_90 (args : List (AV tau)) (m : Mem tau) (k k' : AV tau → Mem tau → Option Unit) (hk : ∀ av m, k av m = some () → k' av m = some ()) (h : c_90 args m k = some ()) : c_90 args m k' = some () := by
 unfold c_90 at h ⊢
 split at h
 · repeat' first | exact callX_mono (fun _ h => hk _ _ h) h | refine bO_mono (fun _ h => ?_) h
 · cases h
theorem w_90 (l0 : List S37) (l1 : List S95) (k : AV tau → Mem tau → Option Unit) : fnA E_90 C_90 D_90 Try.f90 B_90 [.sl 37 l0, .sl 95 l1] ⟨[], []⟩ k = (callX (fun n => spec_ExecRun.f n l0 l1) fun t0 => brA (decide (t0.2.2.2 = (3 : Int))) (k (.tup [.own 0 0, .int .i64 (0 : Int), .int .i64 (3 : Int)]) ⟨[], [some ⟨37, ([] : List S37), 0⟩]⟩) (callX (fun n => spec_l1Copy.f l0) fun t1 => callX (fun n => spec_l3Do.f n t1 t0.1 t0.2.1 t0.2.2.1 t0.2.2.2) fun t2 => k (.tup [.own 0 0, .int .i64 t0.2.2.1, .int .i64 t0.2.2.2]) ⟨[], [some ⟨37, t2, 0⟩]⟩) : Option Unit) := by kernel_rfl
theorem okc_90 (args : List (AV tau)) (m : Mem tau) (κ : AV tau → Mem tau → Option Unit) (hh : c_90 args m κ = some ()) : ∃ av m1, κ av m1 = some () ∧ ToldA Try.prog TT (pnT 90) 90 args m av m1 := by
 obtain ⟨bx_, rw_⟩ := m
 unfold c_90 at hh
 simp only at hh
 split at hh
 case h_2 => cases hh
 rename_i b0 b1
 obtain ⟨l0, hx0, hh0⟩ := bO_some hh
 obtain ⟨l1, hx1, hh1⟩ := bO_some hh0
 have ex0 := asSl_some hx0
 have ex1 := asSl_some hx1
 subst ex0 ex1
 obtain ⟨N, t, h, hκ⟩ := callX_some hh1
 refine ⟨_, _, hκ, told_of_run pq okC_90 (fun _ _ _ => drawA_ok pq okC_90 hmix) (E := E_90) (fn := Try.f90) (body := B_90) (by kernel_rfl) (by kernel_rfl) (by kernel_rfl) (by rfl) (by exact Nat.le_of_ble_eq_true rfl) (fun k hk => ?_)⟩
 refine (w_90 l0 l1 k).trans ?_
 replace h : spec_SerialOne.f N l0 l1 = some t := h
 unfold spec_SerialOne.f at h
 refine call_h N h (fun t0 e5 h => ?_)
 refine br_ite h rfl (fun c6 h => ?_) (fun c6 h => ?_)
 ·cases h; exact hk
 refine call_h 0 h (fun t1 e7 h => ?_)
 refine call_h N h (fun t2 e8 h => ?_)
 cases h; exact hk
noncomputable def C_26 : Ctr tau Unit := ctrS 90 c_90 C_90
noncomputable def D_26 : Drw tau := drawA E_26 C_26
theorem okC_26 : CtrOk Try.prog TT pnT C_26 := ctrS_ok okC_90 okc_90
theorem mC_26 : CtrMono C_26 := ctrS_mono mC_90 mc_90
theorem mD_26 : DrMono D_26 := drawA_mono mC_26
noncomputable def B_26 : Code := Try.f26.body.getD .skip
theorem mc_26 (args : List (AV tau)) (m : Mem tau) (k k' : AV tau → Mem tau → Option Unit) (hk : ∀ av m, k av m = some () → k' av m = some ()) (h : c_26 args m k = some ()) : c_26 args m k' = some () := by
 unfold c_26 at h ⊢
 split at h
 · repeat' first | exact callX_mono (fun _ h => hk _ _ h) h | refine bO_mono (fun _ h => ?_) h
 · cases h
noncomputable def K_26_0 (k : AV tau → Mem tau → Option Unit) : Kon tau := (kBlock 0 (kS E_26 C_26 D_26 (codeP B_26 [1, 1, 1, 1, 1]) (kEnd E_26 Try.f26 k)))
def st_26_0 (x0 : (List (List S95))) (x1 : Int) (x2 : (List Int)) (x3 : (List S37)) : St tau := ⟨tmL 52 0 [(1, .sl 60 x0), (6, .own 0 0), (7, .own 1 0), (8, .int .i64 x1)], ⟨[], [some ⟨3, x2, 0⟩, some ⟨37, x3, 0⟩]⟩⟩
noncomputable def LP_26_0 (k : AV tau → Mem tau → Option Unit) (x0 : (List (List S95))) (x1 : Int) (x2 : (List Int)) (x3 : (List S37)) : Option Unit := loopA E_26 (codeA E_26 C_26 D_26 (codeP B_26 [1, 1, 1, 1, 0, 1, 0, 0])) (codeP B_26 [1, 1, 1, 1, 0, 1, 0, 0]) (K_26_0 k) (st_26_0 x0 x1 x2 x3)
theorem w_26_0 (k : AV tau → Mem tau → Option Unit) (x0 : (List (List S95))) (x1 : Int) (x2 : (List Int)) (x3 : (List S37)) : codeA E_26 C_26 D_26 (codeP B_26 [1, 1, 1, 1, 0, 1, 0, 0]) (kL E_26 C_26 D_26 (codeP B_26 [1, 1, 1, 1, 0, 1, 0, 0]) (K_26_0 k)) (st_26_0 x0 x1 x2 x3) = (brA (decide (x1 < ((x0.length : Nat) : Int))) (brA (decide ((0 : Int) ≤ x1)) (brA (decide (x1 < ((x0.length : Nat) : Int))) (callX (fun n => spec_SerialOne.f n x3 (List.getD x0 (Int.toNat x1) [])) fun t2 => brA (decide (t2.2.2 = (3 : Int))) (k (.tup [.own 0 0, .own 1 0]) ⟨[], [some ⟨37, ([] : List S37), 0⟩, some ⟨3, ([] : List Int), 0⟩]⟩) (brA (decide ((x2.length + 1) ≤ 17592186044416)) (LP_26_0 k x0 (wrap64 (x1 + (1 : Int))) (x2 ++ ([t2.2.1] : List Int)) t2.1) (none))) (none)) (none)) (k (.tup [.own 0 0, .own 1 0]) ⟨[], [some ⟨37, x3, 0⟩, some ⟨3, x2, 0⟩]⟩) : Option Unit) := by
 simp only [← wrapA_i64]
 kernel_rfl
theorem w_26 (l0 : List S37) (l1 : List (List S95)) (k : AV tau → Mem tau → Option Unit) : fnA E_26 C_26 D_26 Try.f26 B_26 [.sl 37 l0, .sl 60 l1] ⟨[], []⟩ k = (callX (fun n => spec_BoxOk.f n l0) fun t0 => brA (!t0) (k (.tup [.own 0 0, .own 1 0]) ⟨[], [some ⟨37, ([] : List S37), 0⟩, some ⟨3, ([] : List Int), 0⟩]⟩) (brA (decide (((l1.length : Nat) : Int) > (100 : Int))) (k (.tup [.own 0 0, .own 1 0]) ⟨[], [some ⟨37, ([] : List S37), 0⟩, some ⟨3, ([] : List Int), 0⟩]⟩) (callX (fun n => spec_l1Copy.f l0) fun t1 => LP_26_0 k l1 (0 : Int) ([] : List Int) t1)) : Option Unit) := by kernel_rfl
def S_26_0 (N : Nat) : Prop := ∀ (k : AV tau → Mem tau → Option Unit) (x0 : (List (List S95))) (x1 : Int) (x2 : (List Int)) (x3 : (List S37)) (r : (List (S37)) × List Int), spec_SerialAll.l0 N (x0) (x2) (x3) (x1) = some r → k (.tup [.own 0 0, .own 1 0]) ⟨[], [some ⟨37, r.1, 0⟩, some ⟨3, r.2, 0⟩]⟩ = some () → LP_26_0 k x0 x1 x2 x3 = some ()
theorem L_26 (N : Nat) : S_26_0 N := by
 induction N using Nat.strongRecOn with | _ N0 ih =>
 skip
 intro k x0 x1 x2 x3 r h hk
 rcases N0 with _ | N
 · cases h
 first | rw [spec_SerialAll.l0] at h | simp only [spec_SerialAll.l0] at h | (unfold spec_SerialAll.l0 at h; dsimp only at h)
 refine loop_fold mC_26 mD_26 ?_
 refine (w_26_0 k x0 x1 x2 x3).trans ?_
 refine br_eti h rfl (fun c19 h => ?_) (fun c19 h => ?_)
 ·cases h; exact hk
 refine br_g h rfl (fun c20 h => ?_)
 refine br_t (by first | (simp [c19]; done) | (simp; omega) | (simp only [List.length_append, List.length_cons, List.length_nil, List.length_take, List.length_drop] at c19 ⊢; simp; omega) | (simp only [List.length_append, List.length_cons, List.length_nil, List.length_take, List.length_drop] at c19; simp; omega) | (simp_all; done)) ?_
 refine call_h N h (fun t2 e21 h => ?_)
 refine br_ite h rfl (fun c22 h => ?_) (fun c22 h => ?_)
 ·cases h; exact hk
 refine br_g h (by first | rfl | exact dect | exact (congrArg not dect) | (simp; done) | (simp [beqI]; done) | (simp; omega)) (fun c23 h => ?_)
 exact (ih N (by omega)) _ _ _ _ _ _ h hk
theorem okc_26 (args : List (AV tau)) (m : Mem tau) (κ : AV tau → Mem tau → Option Unit) (hh : c_26 args m κ = some ()) : ∃ av m1, κ av m1 = some () ∧ ToldA Try.prog TT (pnT 26) 26 args m av m1 := by
 obtain ⟨bx_, rw_⟩ := m
 unfold c_26 at hh
 simp only at hh
 split at hh
 case h_2 => cases hh
 rename_i b0 b1
 obtain ⟨l0, hx0, hh0⟩ := bO_some hh
 obtain ⟨l1, hx1, hh1⟩ := bO_some hh0
 have ex0 := asSl_some hx0
 have ex1 := asSl_some hx1
 subst ex0 ex1
 obtain ⟨N, t, h, hκ⟩ := callX_some hh1
 refine ⟨_, _, hκ, told_of_run pq okC_26 (fun _ _ _ => drawA_ok pq okC_26 hmix) (E := E_26) (fn := Try.f26) (body := B_26) (by kernel_rfl) (by kernel_rfl) (by kernel_rfl) (by rfl) (by exact Nat.le_of_ble_eq_true rfl) (fun k hk => ?_)⟩
 refine (w_26 l0 l1 k).trans ?_
 replace h : spec_SerialAll.f N l0 l1 = some t := h
 unfold spec_SerialAll.f at h
 refine call_h N h (fun t0 e24 h => ?_)
 refine br_etn h (congrArg not dect) (fun c25 h => ?_) (fun c25 h => ?_)
 ·rcases N with _ | N
  · cases h
  first | rw [spec_SerialAll.j0] at h | simp only [spec_SerialAll.j0] at h | (unfold spec_SerialAll.j0 at h; dsimp only at h)
  replace h := ite_t h (by first | assumption | omega | simp_all)
  cases h; exact hk
 rcases N with _ | N
 · cases h
 first | rw [spec_SerialAll.j0] at h | simp only [spec_SerialAll.j0] at h | (unfold spec_SerialAll.j0 at h; dsimp only at h)
 refine br_eti h (by first | rfl | exact dect | exact (congrArg not dect) | (simp; done) | (simp [beqI]; done) | (simp; omega)) (fun c26 h => ?_) (fun c26 h => ?_)
 ·refine call_h 0 h (fun t1 e27 h => ?_)
  exact (L_26 N) _ _ _ _ _ _ h hk
 cases h; exact hk
noncomputable def C_91 : Ctr tau Unit := ctrS 26 c_26 C_26
noncomputable def D_91 : Drw tau := drawA E_91 C_91
theorem okC_91 : CtrOk Try.prog TT pnT C_91 := ctrS_ok okC_26 okc_26
theorem mC_91 : CtrMono C_91 := ctrS_mono mC_26 mc_26
theorem mD_91 : DrMono D_91 := drawA_mono mC_91
noncomputable def B_91 : Code := Try.f91.body.getD .skip
theorem mc_91 (args : List (AV tau)) (m : Mem tau) (k k' : AV tau → Mem tau → Option Unit) (hk : ∀ av m, k av m = some () → k' av m = some ()) (h : c_91 args m k = some ()) : c_91 args m k' = some () := by
 unfold c_91 at h ⊢
 split at h
 · repeat' first | exact callX_mono (fun _ h => hk _ _ h) h | refine bO_mono (fun _ h => ?_) h
 · cases h
theorem w_91 (a0_0 : Int) (a0_1 : Int) (k : AV tau → Mem tau → Option Unit) : fnA E_91 C_91 D_91 Try.f91 B_91 [.agg [.int .i64 a0_0, .int .i64 a0_1]] ⟨[], []⟩ k = (k (.agg [.int .i64 a0_0, .int .i64 a0_1]) ⟨[], []⟩ : Option Unit) := by kernel_rfl
theorem okc_91 (args : List (AV tau)) (m : Mem tau) (κ : AV tau → Mem tau → Option Unit) (hh : c_91 args m κ = some ()) : ∃ av m1, κ av m1 = some () ∧ ToldA Try.prog TT (pnT 91) 91 args m av m1 := by
 obtain ⟨bx_, rw_⟩ := m
 unfold c_91 at hh
 simp only at hh
 split at hh
 case h_2 => cases hh
 rename_i b0 b1
 obtain ⟨a0_0, hx0, hh0⟩ := bO_some hh
 obtain ⟨a0_1, hx1, hh1⟩ := bO_some hh0
 have ex0 := asI_some hx0
 have ex1 := asI_some hx1
 subst ex0 ex1
 obtain ⟨N, t, h, hκ⟩ := callX_some hh1
 refine ⟨_, _, hκ, told_of_run pq okC_91 (fun _ _ _ => drawA_ok pq okC_91 hmix) (E := E_91) (fn := Try.f91) (body := B_91) (by kernel_rfl) (by kernel_rfl) (by kernel_rfl) (by rfl) (by exact Nat.le_of_ble_eq_true rfl) (fun k hk => ?_)⟩
 refine (w_91 a0_0 a0_1 k).trans ?_
 replace h : laws_toBox.f a0_0 a0_1 = some t := h
 unfold laws_toBox.f at h
 cases h; exact hk
noncomputable def C_27 : Ctr tau Unit := ctrS 91 c_91 C_91
noncomputable def D_27 : Drw tau := drawA E_27 C_27
theorem okC_27 : CtrOk Try.prog TT pnT C_27 := ctrS_ok okC_91 okc_91
theorem mC_27 : CtrMono C_27 := ctrS_mono mC_91 mc_91
theorem mD_27 : DrMono D_27 := drawA_mono mC_27
noncomputable def B_27 : Code := Try.f27.body.getD .skip
theorem mc_27 (args : List (AV tau)) (m : Mem tau) (k k' : AV tau → Mem tau → Option Unit) (hk : ∀ av m, k av m = some () → k' av m = some ()) (h : c_27 args m k = some ()) : c_27 args m k' = some () := by
 unfold c_27 at h ⊢
 split at h
 · repeat' first | exact callX_mono (fun _ h => hk _ _ h) h | refine bO_mono (fun _ h => ?_) h
 · cases h
noncomputable def K_27_0 (k : AV tau → Mem tau → Option Unit) : Kon tau := (kBlock 0 (kS E_27 C_27 D_27 (codeP B_27 [1, 1, 1]) (kEnd E_27 Try.f27 k)))
def st_27_0 (x0 : (List S136)) (x1 : Int) (x2 : (List S37)) : St tau := ⟨tmL 23 0 [(0, .sl 136 x0), (3, .own 0 0), (4, .int .i64 x1)], ⟨[], [some ⟨37, x2, 0⟩]⟩⟩
noncomputable def LP_27_0 (k : AV tau → Mem tau → Option Unit) (x0 : (List S136)) (x1 : Int) (x2 : (List S37)) : Option Unit := loopA E_27 (codeA E_27 C_27 D_27 (codeP B_27 [1, 1, 0, 1, 0, 0])) (codeP B_27 [1, 1, 0, 1, 0, 0]) (K_27_0 k) (st_27_0 x0 x1 x2)
theorem w_27_0 (k : AV tau → Mem tau → Option Unit) (x0 : (List S136)) (x1 : Int) (x2 : (List S37)) : codeA E_27 C_27 D_27 (codeP B_27 [1, 1, 0, 1, 0, 0]) (kL E_27 C_27 D_27 (codeP B_27 [1, 1, 0, 1, 0, 0]) (K_27_0 k)) (st_27_0 x0 x1 x2) = (brA (decide (x1 < ((x0.length : Nat) : Int))) (brA (decide ((0 : Int) ≤ x1)) (brA (decide (x1 < ((x0.length : Nat) : Int))) (callX (fun n => laws_toBox.f ((rd_T136 x0 x1).f0) ((rd_T136 x0 x1).f1)) fun t0 => brA (decide ((0 : Int) ≤ x1)) (brA (decide (x1 < ((x2.length : Nat) : Int))) (LP_27_0 k x0 (wrap64 (x1 + (1 : Int))) (List.set x2 (Int.toNat x1) (⟨t0.1, t0.2⟩ : S37))) (none)) (none)) (none)) (none)) (k (.own 0 0) ⟨[], [some ⟨37, x2, 0⟩]⟩) : Option Unit) := by
 simp only [← wrapA_i64]
 kernel_rfl
theorem w_27 (l0 : List S136) (k : AV tau → Mem tau → Option Unit) : fnA E_27 C_27 D_27 Try.f27 B_27 [.sl 136 l0] ⟨[], []⟩ k = (brA (decide ((Int.toNat ((l0.length : Nat) : Int)) ≤ 17592186044416)) (LP_27_0 k l0 (0 : Int) (List.replicate (Int.toNat ((l0.length : Nat) : Int)) (⟨(0 : Int), (0 : Int)⟩ : S37))) (none) : Option Unit) := by kernel_rfl
def S_27_0 (N : Nat) : Prop := ∀ (k : AV tau → Mem tau → Option Unit) (x0 : (List S136)) (x1 : Int) (x2 : (List S37)) (r : (List (S37))), laws_toBoxS.l0 N (x0) (x2) (x1) = some r → k (.own 0 0) ⟨[], [some ⟨37, r, 0⟩]⟩ = some () → LP_27_0 k x0 x1 x2 = some ()
theorem L_27 (N : Nat) : S_27_0 N := by
 induction N using Nat.strongRecOn with | _ N0 ih =>
 skip
 intro k x0 x1 x2 r h hk
 rcases N0 with _ | N
 · cases h
 first | rw [laws_toBoxS.l0] at h | simp only [laws_toBoxS.l0] at h | (unfold laws_toBoxS.l0 at h; dsimp only at h)
 refine loop_fold mC_27 mD_27 ?_
 refine (w_27_0 k x0 x1 x2).trans ?_
 refine br_eti h rfl (fun c13 h => ?_) (fun c13 h => ?_)
 ·cases h; exact hk
 refine br_g h rfl (fun c14 h => ?_)
 refine br_t (by first | (simp [c13]; done) | (simp; omega) | (simp only [List.length_append, List.length_cons, List.length_nil, List.length_take, List.length_drop] at c13 ⊢; simp; omega) | (simp only [List.length_append, List.length_cons, List.length_nil, List.length_take, List.length_drop] at c13; simp; omega) | (simp_all; done)) ?_
 refine call_h 0 h (fun t0 e15 h => ?_)
 refine br_t (by first | (simp [c14]; done) | (simp; omega) | (simp only [List.length_append, List.length_cons, List.length_nil, List.length_take, List.length_drop] at c13 ⊢; simp; omega) | (simp only [List.length_append, List.length_cons, List.length_nil, List.length_take, List.length_drop] at c13; simp; omega) | (simp_all; done)) ?_
 refine br_g h rfl (fun c16 h => ?_)
 exact (ih N (by omega)) _ _ _ _ _ h hk
theorem okc_27 (args : List (AV tau)) (m : Mem tau) (κ : AV tau → Mem tau → Option Unit) (hh : c_27 args m κ = some ()) : ∃ av m1, κ av m1 = some () ∧ ToldA Try.prog TT (pnT 27) 27 args m av m1 := by
 obtain ⟨bx_, rw_⟩ := m
 unfold c_27 at hh
 simp only at hh
 split at hh
 case h_2 => cases hh
 rename_i b0
 obtain ⟨l0, hx0, hh0⟩ := bO_some hh
 have ex0 := asSl_some hx0
 subst ex0
 obtain ⟨N, t, h, hκ⟩ := callX_some hh0
 refine ⟨_, _, hκ, told_of_run pq okC_27 (fun _ _ _ => drawA_ok pq okC_27 hmix) (E := E_27) (fn := Try.f27) (body := B_27) (by kernel_rfl) (by kernel_rfl) (by kernel_rfl) (by rfl) (by exact Nat.le_of_ble_eq_true rfl) (fun k hk => ?_)⟩
 refine (w_27 l0 k).trans ?_
 replace h : laws_toBoxS.f N l0 = some t := h
 unfold laws_toBoxS.f at h
 refine ite_x h (fun c17 h => ?_) (fun _ h => by cases h)
 refine br_g h rfl (fun c18 h => ?_)
 exact (L_27 N) _ _ _ _ _ h hk
noncomputable def C_147 : Ctr tau Unit := ctrS 27 c_27 C_27
noncomputable def D_147 : Drw tau := drawA E_147 C_147
theorem okC_147 : CtrOk Try.prog TT pnT C_147 := ctrS_ok okC_27 okc_27
theorem mC_147 : CtrMono C_147 := ctrS_mono mC_27 mc_27
theorem mD_147 : DrMono D_147 := drawA_mono mC_147
noncomputable def B_147 : Code := Try.f147.body.getD .skip
theorem mc_147 (args : List (AV tau)) (m : Mem tau) (k k' : AV tau → Mem tau → Option Unit) (hk : ∀ av m, k av m = some () → k' av m = some ()) (h : c_147 args m k = some ()) : c_147 args m k' = some () := by
 unfold c_147 at h ⊢
 split at h
 · repeat' first | exact callX_mono (fun _ h => hk _ _ h) h | refine bO_mono (fun _ h => ?_) h
 · cases h
theorem w_147 (a0_0 : Int) (a0_1 : Int) (a0_2 : Int) (a0_3 : Int) (k : AV tau → Mem tau → Option Unit) : fnA E_147 C_147 D_147 Try.f147 B_147 [.agg [.int .i64 a0_0, .int .i64 a0_1, .int .i64 a0_2, .int .i64 a0_3]] ⟨[], []⟩ k = (k (.agg [.int .i64 a0_0, .int .i64 a0_1, .int .i64 a0_2, .int .i64 a0_3]) ⟨[], []⟩ : Option Unit) := by kernel_rfl
theorem okc_147 (args : List (AV tau)) (m : Mem tau) (κ : AV tau → Mem tau → Option Unit) (hh : c_147 args m κ = some ()) : ∃ av m1, κ av m1 = some () ∧ ToldA Try.prog TT (pnT 147) 147 args m av m1 := by
 obtain ⟨bx_, rw_⟩ := m
 unfold c_147 at hh
 simp only at hh
 split at hh
 case h_2 => cases hh
 rename_i b0 b1 b2 b3
 obtain ⟨a0_0, hx0, hh0⟩ := bO_some hh
 obtain ⟨a0_1, hx1, hh1⟩ := bO_some hh0
 obtain ⟨a0_2, hx2, hh2⟩ := bO_some hh1
 obtain ⟨a0_3, hx3, hh3⟩ := bO_some hh2
 have ex0 := asI_some hx0
 have ex1 := asI_some hx1
 have ex2 := asI_some hx2
 have ex3 := asI_some hx3
 subst ex0 ex1 ex2 ex3
 obtain ⟨N, t, h, hκ⟩ := callX_some hh3
 refine ⟨_, _, hκ, told_of_run pq okC_147 (fun _ _ _ => drawA_ok pq okC_147 hmix) (E := E_147) (fn := Try.f147) (body := B_147) (by kernel_rfl) (by kernel_rfl) (by kernel_rfl) (by rfl) (by exact Nat.le_of_ble_eq_true rfl) (fun k hk => ?_)⟩
 refine (w_147 a0_0 a0_1 a0_2 a0_3 k).trans ?_
 replace h : laws_toIns.f a0_0 a0_1 a0_2 a0_3 = some t := h
 unfold laws_toIns.f at h
 cases h; exact hk
noncomputable def C_92 : Ctr tau Unit := ctrS 147 c_147 C_147
noncomputable def D_92 : Drw tau := drawA E_92 C_92
theorem okC_92 : CtrOk Try.prog TT pnT C_92 := ctrS_ok okC_147 okc_147
theorem mC_92 : CtrMono C_92 := ctrS_mono mC_147 mc_147
theorem mD_92 : DrMono D_92 := drawA_mono mC_92
noncomputable def B_92 : Code := Try.f92.body.getD .skip
theorem mc_92 (args : List (AV tau)) (m : Mem tau) (k k' : AV tau → Mem tau → Option Unit) (hk : ∀ av m, k av m = some () → k' av m = some ()) (h : c_92 args m k = some ()) : c_92 args m k' = some () := by
 unfold c_92 at h ⊢
 split at h
 · repeat' first | exact callX_mono (fun _ h => hk _ _ h) h | refine bO_mono (fun _ h => ?_) h
 · cases h
noncomputable def K_92_0 (k : AV tau → Mem tau → Option Unit) : Kon tau := (kBlock 0 (kS E_92 C_92 D_92 (codeP B_92 [1, 1, 1]) (kEnd E_92 Try.f92 k)))
def st_92_0 (x0 : (List S175)) (x1 : Int) (x2 : (List S95)) : St tau := ⟨tmL 23 0 [(0, .sl 175 x0), (3, .own 0 0), (4, .int .i64 x1)], ⟨[], [some ⟨95, x2, 0⟩]⟩⟩
noncomputable def LP_92_0 (k : AV tau → Mem tau → Option Unit) (x0 : (List S175)) (x1 : Int) (x2 : (List S95)) : Option Unit := loopA E_92 (codeA E_92 C_92 D_92 (codeP B_92 [1, 1, 0, 1, 0, 0])) (codeP B_92 [1, 1, 0, 1, 0, 0]) (K_92_0 k) (st_92_0 x0 x1 x2)
theorem w_92_0 (k : AV tau → Mem tau → Option Unit) (x0 : (List S175)) (x1 : Int) (x2 : (List S95)) : codeA E_92 C_92 D_92 (codeP B_92 [1, 1, 0, 1, 0, 0]) (kL E_92 C_92 D_92 (codeP B_92 [1, 1, 0, 1, 0, 0]) (K_92_0 k)) (st_92_0 x0 x1 x2) = (brA (decide (x1 < ((x0.length : Nat) : Int))) (brA (decide ((0 : Int) ≤ x1)) (brA (decide (x1 < ((x0.length : Nat) : Int))) (callX (fun n => laws_toIns.f ((rd_T175 x0 x1).f0) ((rd_T175 x0 x1).f1) ((rd_T175 x0 x1).f2) ((rd_T175 x0 x1).f3)) fun t0 => brA (decide ((0 : Int) ≤ x1)) (brA (decide (x1 < ((x2.length : Nat) : Int))) (LP_92_0 k x0 (wrap64 (x1 + (1 : Int))) (List.set x2 (Int.toNat x1) (⟨t0.1, t0.2.1, t0.2.2.1, t0.2.2.2⟩ : S95))) (none)) (none)) (none)) (none)) (k (.own 0 0) ⟨[], [some ⟨95, x2, 0⟩]⟩) : Option Unit) := by
 simp only [← wrapA_i64]
 kernel_rfl
theorem w_92 (l0 : List S175) (k : AV tau → Mem tau → Option Unit) : fnA E_92 C_92 D_92 Try.f92 B_92 [.sl 175 l0] ⟨[], []⟩ k = (brA (decide ((Int.toNat ((l0.length : Nat) : Int)) ≤ 8796093022208)) (LP_92_0 k l0 (0 : Int) (List.replicate (Int.toNat ((l0.length : Nat) : Int)) (⟨(0 : Int), (0 : Int), (0 : Int), (0 : Int)⟩ : S95))) (none) : Option Unit) := by kernel_rfl
def S_92_0 (N : Nat) : Prop := ∀ (k : AV tau → Mem tau → Option Unit) (x0 : (List S175)) (x1 : Int) (x2 : (List S95)) (r : (List (S95))), laws_toInsS.l0 N (x0) (x2) (x1) = some r → k (.own 0 0) ⟨[], [some ⟨95, r, 0⟩]⟩ = some () → LP_92_0 k x0 x1 x2 = some ()
theorem L_92 (N : Nat) : S_92_0 N := by
 induction N using Nat.strongRecOn with | _ N0 ih =>
 skip
 intro k x0 x1 x2 r h hk
 rcases N0 with _ | N
 · cases h
 first | rw [laws_toInsS.l0] at h | simp only [laws_toInsS.l0] at h | (unfold laws_toInsS.l0 at h; dsimp only at h)
 refine loop_fold mC_92 mD_92 ?_
 refine (w_92_0 k x0 x1 x2).trans ?_
 refine br_eti h rfl (fun c13 h => ?_) (fun c13 h => ?_)
 ·cases h; exact hk
 refine br_g h rfl (fun c14 h => ?_)
 refine br_t (by first | (simp [c13]; done) | (simp; omega) | (simp only [List.length_append, List.length_cons, List.length_nil, List.length_take, List.length_drop] at c13 ⊢; simp; omega) | (simp only [List.length_append, List.length_cons, List.length_nil, List.length_take, List.length_drop] at c13; simp; omega) | (simp_all; done)) ?_
 refine call_h 0 h (fun t0 e15 h => ?_)
 refine br_t (by first | (simp [c14]; done) | (simp; omega) | (simp only [List.length_append, List.length_cons, List.length_nil, List.length_take, List.length_drop] at c13 ⊢; simp; omega) | (simp only [List.length_append, List.length_cons, List.length_nil, List.length_take, List.length_drop] at c13; simp; omega) | (simp_all; done)) ?_
 refine br_g h rfl (fun c16 h => ?_)
 exact (ih N (by omega)) _ _ _ _ _ h hk
theorem okc_92 (args : List (AV tau)) (m : Mem tau) (κ : AV tau → Mem tau → Option Unit) (hh : c_92 args m κ = some ()) : ∃ av m1, κ av m1 = some () ∧ ToldA Try.prog TT (pnT 92) 92 args m av m1 := by
 obtain ⟨bx_, rw_⟩ := m
 unfold c_92 at hh
 simp only at hh
 split at hh
 case h_2 => cases hh
 rename_i b0
 obtain ⟨l0, hx0, hh0⟩ := bO_some hh
 have ex0 := asSl_some hx0
 subst ex0
 obtain ⟨N, t, h, hκ⟩ := callX_some hh0
 refine ⟨_, _, hκ, told_of_run pq okC_92 (fun _ _ _ => drawA_ok pq okC_92 hmix) (E := E_92) (fn := Try.f92) (body := B_92) (by kernel_rfl) (by kernel_rfl) (by kernel_rfl) (by rfl) (by exact Nat.le_of_ble_eq_true rfl) (fun k hk => ?_)⟩
 refine (w_92 l0 k).trans ?_
 replace h : laws_toInsS.f N l0 = some t := h
 unfold laws_toInsS.f at h
 refine ite_x h (fun c17 h => ?_) (fun _ h => by cases h)
 refine br_g h rfl (fun c18 h => ?_)
 exact (L_92 N) _ _ _ _ _ h hk
noncomputable def C_28 : Ctr tau Unit := ctrS 92 c_92 C_92
noncomputable def D_28 : Drw tau := drawA E_28 C_28
theorem okC_28 : CtrOk Try.prog TT pnT C_28 := ctrS_ok okC_92 okc_92
theorem mC_28 : CtrMono C_28 := ctrS_mono mC_92 mc_92
theorem mD_28 : DrMono D_28 := drawA_mono mC_28
noncomputable def B_28 : Code := Try.f28.body.getD .skip
theorem mc_28 (args : List (AV tau)) (m : Mem tau) (k k' : AV tau → Mem tau → Option Unit) (hk : ∀ av m, k av m = some () → k' av m = some ()) (h : c_28 args m k = some ()) : c_28 args m k' = some () := by
 unfold c_28 at h ⊢
 split at h
 · repeat' first | exact callX_mono (fun _ h => hk _ _ h) h | refine bO_mono (fun _ h => ?_) h
 · cases h
noncomputable def K_28_0 (k : AV tau → Mem tau → Option Unit) : Kon tau := (kBlock 0 (kS E_28 C_28 D_28 (codeP B_28 [1, 1, 1]) (kEnd E_28 Try.f28 k)))
def st_28_0 (x0 : (List (List S175))) (x1 : Int) (x2 : (List (List S95))) : St tau := ⟨tmL 23 0 [(0, .sl 133 x0), (3, .own 0 0), (4, .int .i64 x1)], ⟨[], [some ⟨60, x2, 0⟩]⟩⟩
noncomputable def LP_28_0 (k : AV tau → Mem tau → Option Unit) (x0 : (List (List S175))) (x1 : Int) (x2 : (List (List S95))) : Option Unit := loopA E_28 (codeA E_28 C_28 D_28 (codeP B_28 [1, 1, 0, 1, 0, 0])) (codeP B_28 [1, 1, 0, 1, 0, 0]) (K_28_0 k) (st_28_0 x0 x1 x2)
theorem w_28_0 (k : AV tau → Mem tau → Option Unit) (x0 : (List (List S175))) (x1 : Int) (x2 : (List (List S95))) : codeA E_28 C_28 D_28 (codeP B_28 [1, 1, 0, 1, 0, 0]) (kL E_28 C_28 D_28 (codeP B_28 [1, 1, 0, 1, 0, 0]) (K_28_0 k)) (st_28_0 x0 x1 x2) = (brA (decide (x1 < ((x0.length : Nat) : Int))) (brA (decide ((0 : Int) ≤ x1)) (brA (decide (x1 < ((x0.length : Nat) : Int))) (callX (fun n => laws_toInsS.f n (List.getD x0 (Int.toNat x1) [])) fun t0 => brA (decide ((0 : Int) ≤ x1)) (brA (decide (x1 < ((x2.length : Nat) : Int))) (LP_28_0 k x0 (wrap64 (x1 + (1 : Int))) (List.set x2 (Int.toNat x1) t0)) (none)) (none)) (none)) (none)) (k (.own 0 0) ⟨[], [some ⟨60, x2, 0⟩]⟩) : Option Unit) := by
 simp only [← wrapA_i64]
 kernel_rfl
theorem w_28 (l0 : List (List S175)) (k : AV tau → Mem tau → Option Unit) : fnA E_28 C_28 D_28 Try.f28 B_28 [.sl 133 l0] ⟨[], []⟩ k = (brA (decide ((Int.toNat ((l0.length : Nat) : Int)) ≤ 11728124029610)) (LP_28_0 k l0 (0 : Int) (List.replicate (Int.toNat ((l0.length : Nat) : Int)) ([] : List S95))) (none) : Option Unit) := by kernel_rfl
def S_28_0 (N : Nat) : Prop := ∀ (k : AV tau → Mem tau → Option Unit) (x0 : (List (List S175))) (x1 : Int) (x2 : (List (List S95))) (r : (List (List (S95)))), laws_toInsSS.l0 N (x0) (x2) (x1) = some r → k (.own 0 0) ⟨[], [some ⟨60, r, 0⟩]⟩ = some () → LP_28_0 k x0 x1 x2 = some ()
theorem L_28 (N : Nat) : S_28_0 N := by
 induction N using Nat.strongRecOn with | _ N0 ih =>
 skip
 intro k x0 x1 x2 r h hk
 rcases N0 with _ | N
 · cases h
 first | rw [laws_toInsSS.l0] at h | simp only [laws_toInsSS.l0] at h | (unfold laws_toInsSS.l0 at h; dsimp only at h)
 refine loop_fold mC_28 mD_28 ?_
 refine (w_28_0 k x0 x1 x2).trans ?_
 refine br_eti h rfl (fun c13 h => ?_) (fun c13 h => ?_)
 ·cases h; exact hk
 refine br_g h rfl (fun c14 h => ?_)
 refine br_t (by first | (simp [c13]; done) | (simp; omega) | (simp only [List.length_append, List.length_cons, List.length_nil, List.length_take, List.length_drop] at c13 ⊢; simp; omega) | (simp only [List.length_append, List.length_cons, List.length_nil, List.length_take, List.length_drop] at c13; simp; omega) | (simp_all; done)) ?_
 refine call_h N h (fun t0 e15 h => ?_)
 refine br_t (by first | (simp [c14]; done) | (simp; omega) | (simp only [List.length_append, List.length_cons, List.length_nil, List.length_take, List.length_drop] at c13 ⊢; simp; omega) | (simp only [List.length_append, List.length_cons, List.length_nil, List.length_take, List.length_drop] at c13; simp; omega) | (simp_all; done)) ?_
 refine br_g h rfl (fun c16 h => ?_)
 exact (ih N (by omega)) _ _ _ _ _ h hk
theorem okc_28 (args : List (AV tau)) (m : Mem tau) (κ : AV tau → Mem tau → Option Unit) (hh : c_28 args m κ = some ()) : ∃ av m1, κ av m1 = some () ∧ ToldA Try.prog TT (pnT 28) 28 args m av m1 := by
 obtain ⟨bx_, rw_⟩ := m
 unfold c_28 at hh
 simp only at hh
 split at hh
 case h_2 => cases hh
 rename_i b0
 obtain ⟨l0, hx0, hh0⟩ := bO_some hh
 have ex0 := asSl_some hx0
 subst ex0
 obtain ⟨N, t, h, hκ⟩ := callX_some hh0
 refine ⟨_, _, hκ, told_of_run pq okC_28 (fun _ _ _ => drawA_ok pq okC_28 hmix) (E := E_28) (fn := Try.f28) (body := B_28) (by kernel_rfl) (by kernel_rfl) (by kernel_rfl) (by rfl) (by exact Nat.le_of_ble_eq_true rfl) (fun k hk => ?_)⟩
 refine (w_28 l0 k).trans ?_
 replace h : laws_toInsSS.f N l0 = some t := h
 unfold laws_toInsSS.f at h
 refine ite_x h (fun c17 h => ?_) (fun _ h => by cases h)
 refine br_g h rfl (fun c18 h => ?_)
 exact (L_28 N) _ _ _ _ _ h hk
noncomputable def C_122 : Ctr tau Unit := ctrS 28 c_28 C_28
noncomputable def D_122 : Drw tau := drawA E_122 C_122
theorem okC_122 : CtrOk Try.prog TT pnT C_122 := ctrS_ok okC_28 okc_28
theorem mC_122 : CtrMono C_122 := ctrS_mono mC_28 mc_28
theorem mD_122 : DrMono D_122 := drawA_mono mC_122
noncomputable def B_122 : Code := Try.f122.body.getD .skip
theorem mc_122 (args : List (AV tau)) (m : Mem tau) (k k' : AV tau → Mem tau → Option Unit) (hk : ∀ av m, k av m = some () → k' av m = some ()) (h : c_122 args m k = some ()) : c_122 args m k' = some () := by
 unfold c_122 at h ⊢
 split at h
 · repeat' first | exact callX_mono (fun _ h => hk _ _ h) h | refine bO_mono (fun _ h => ?_) h
 · cases h
theorem w_122 (a0 : Int) (a1 : Int) (a2 : Int) (k : AV tau → Mem tau → Option Unit) : fnA E_122 C_122 D_122 Try.f122 B_122 [.int .i64 a0, .int .i64 a1, .int .i64 a2] ⟨[], []⟩ k = (brA (decide (a0 ≥ a1)) (k (.bool (decide (a0 ≤ a2))) ⟨[], []⟩) (k (.bool false) ⟨[], []⟩) : Option Unit) := by kernel_rfl
theorem okc_122 (args : List (AV tau)) (m : Mem tau) (κ : AV tau → Mem tau → Option Unit) (hh : c_122 args m κ = some ()) : ∃ av m1, κ av m1 = some () ∧ ToldA Try.prog TT (pnT 122) 122 args m av m1 := by
 obtain ⟨bx_, rw_⟩ := m
 unfold c_122 at hh
 simp only at hh
 split at hh
 case h_2 => cases hh
 rename_i b0 b1 b2
 obtain ⟨a0, hx0, hh0⟩ := bO_some hh
 obtain ⟨a1, hx1, hh1⟩ := bO_some hh0
 obtain ⟨a2, hx2, hh2⟩ := bO_some hh1
 have ex0 := asI_some hx0
 have ex1 := asI_some hx1
 have ex2 := asI_some hx2
 subst ex0 ex1 ex2
 obtain ⟨N, t, h, hκ⟩ := callX_some hh2
 refine ⟨_, _, hκ, told_of_run pq okC_122 (fun _ _ _ => drawA_ok pq okC_122 hmix) (E := E_122) (fn := Try.f122) (body := B_122) (by kernel_rfl) (by kernel_rfl) (by kernel_rfl) (by rfl) (by exact Nat.le_of_ble_eq_true rfl) (fun k hk => ?_)⟩
 refine (w_122 a0 a1 a2 k).trans ?_
 replace h : impl_in.f a0 a1 a2 = some t := h
 unfold impl_in.f at h
 refine br_eti h rfl (fun c2 h => ?_) (fun c2 h => ?_)
 ·cases h; exact hk
 cases h; exact hk
noncomputable def C_82 : Ctr tau Unit := ctrS 122 c_122 C_122
noncomputable def D_82 : Drw tau := drawA E_82 C_82
theorem okC_82 : CtrOk Try.prog TT pnT C_82 := ctrS_ok okC_122 okc_122
theorem mC_82 : CtrMono C_82 := ctrS_mono mC_122 mc_122
theorem mD_82 : DrMono D_82 := drawA_mono mC_82
noncomputable def B_82 : Code := Try.f82.body.getD .skip
theorem mc_82 (args : List (AV tau)) (m : Mem tau) (k k' : AV tau → Mem tau → Option Unit) (hk : ∀ av m, k av m = some () → k' av m = some ()) (h : c_82 args m k = some ()) : c_82 args m k' = some () := by
 unfold c_82 at h ⊢
 split at h
 · repeat' first | exact callX_mono (fun _ h => hk _ _ h) h | refine bO_mono (fun _ h => ?_) h
 · cases h
noncomputable def K_82_0 (k : AV tau → Mem tau → Option Unit) : Kon tau := (kBlock 0 (kS E_82 C_82 D_82 (codeP B_82 [1, 1]) (kEnd E_82 Try.f82 k)))
def st_82_0 (x0 : (List S37)) (x1 : (List S37)) (x2 : Int) (x3 : Int) : St tau := ⟨tmL 25 0 [(0, .sl 37 x0), (5, .sl 37 x1), (6, .int .i64 x2), (7, .int .i64 x3)], ⟨[], []⟩⟩
noncomputable def LP_82_0 (k : AV tau → Mem tau → Option Unit) (x0 : (List S37)) (x1 : (List S37)) (x2 : Int) (x3 : Int) : Option Unit := loopA E_82 (codeA E_82 C_82 D_82 (codeP B_82 [1, 0, 1, 0, 0])) (codeP B_82 [1, 0, 1, 0, 0]) (K_82_0 k) (st_82_0 x0 x1 x2 x3)
theorem w_82_0 (k : AV tau → Mem tau → Option Unit) (x0 : (List S37)) (x1 : (List S37)) (x2 : Int) (x3 : Int) : codeA E_82 C_82 D_82 (codeP B_82 [1, 0, 1, 0, 0]) (kL E_82 C_82 D_82 (codeP B_82 [1, 0, 1, 0, 0]) (K_82_0 k)) (st_82_0 x0 x1 x2 x3) = (brA (decide (x3 < x2)) (brA (decide ((0 : Int) ≤ x3)) (brA (decide (x3 < ((x1.length : Nat) : Int))) (callX (fun n => impl_in.f ((rd_T37 x1 x3).f0) (0 : Int) (1000000 : Int)) fun t0 => brA (!t0) (k (.bool false) ⟨[], []⟩) (callX (fun n => impl_in.f ((rd_T37 x1 x3).f1) (-(1000000 : Int)) (1000000 : Int)) fun t1 => brA (!t1) (k (.bool false) ⟨[], []⟩) (LP_82_0 k x0 x1 x2 (wrap64 (x3 + (1 : Int)))))) (none)) (none)) (k (.bool (decide (((x0.length : Nat) : Int) = (4 : Int)))) ⟨[], []⟩) : Option Unit) := by
 simp only [← wrapA_i64]
 kernel_rfl
theorem w_82 (l0 : List S37) (k : AV tau → Mem tau → Option Unit) : fnA E_82 C_82 D_82 Try.f82 B_82 [.sl 37 l0] ⟨[], []⟩ k = (LP_82_0 k l0 l0 ((l0.length : Nat) : Int) (0 : Int) : Option Unit) := by kernel_rfl
def S_82_0 (N : Nat) : Prop := ∀ (k : AV tau → Mem tau → Option Unit) (x0 : (List S37)) (x1 : (List S37)) (x2 : Int) (x3 : Int) (r : Bool), impl_BoxOk.l0 N (x0) (x1) (x2) (x3) = some r → k (.bool (r)) ⟨[], []⟩ = some () → LP_82_0 k x0 x1 x2 x3 = some ()
theorem L_82 (N : Nat) : S_82_0 N := by
 induction N using Nat.strongRecOn with | _ N0 ih =>
 skip
 intro k x0 x1 x2 x3 r h hk
 rcases N0 with _ | N
 · cases h
 first | rw [impl_BoxOk.l0] at h | simp only [impl_BoxOk.l0] at h | (unfold impl_BoxOk.l0 at h; dsimp only at h)
 refine loop_fold mC_82 mD_82 ?_
 refine (w_82_0 k x0 x1 x2 x3).trans ?_
 refine br_eti h rfl (fun c15 h => ?_) (fun c15 h => ?_)
 ·cases h; exact hk
 refine br_g h rfl (fun c16 h => ?_)
 refine br_g h rfl (fun c17 h => ?_)
 refine call_h 0 h (fun t0 e18 h => ?_)
 refine br_etn h (congrArg not dect) (fun c19 h => ?_) (fun c19 h => ?_)
 ·cases h; exact hk
 refine call_h 0 h (fun t1 e20 h => ?_)
 refine br_etn h (congrArg not dect) (fun c21 h => ?_) (fun c21 h => ?_)
 ·cases h; exact hk
 exact (ih N (by omega)) _ _ _ _ _ _ h hk
theorem okc_82 (args : List (AV tau)) (m : Mem tau) (κ : AV tau → Mem tau → Option Unit) (hh : c_82 args m κ = some ()) : ∃ av m1, κ av m1 = some () ∧ ToldA Try.prog TT (pnT 82) 82 args m av m1 := by
 obtain ⟨bx_, rw_⟩ := m
 unfold c_82 at hh
 simp only at hh
 split at hh
 case h_2 => cases hh
 rename_i b0
 obtain ⟨l0, hx0, hh0⟩ := bO_some hh
 have ex0 := asSl_some hx0
 subst ex0
 obtain ⟨N, t, h, hκ⟩ := callX_some hh0
 refine ⟨_, _, hκ, told_of_run pq okC_82 (fun _ _ _ => drawA_ok pq okC_82 hmix) (E := E_82) (fn := Try.f82) (body := B_82) (by kernel_rfl) (by kernel_rfl) (by kernel_rfl) (by rfl) (by exact Nat.le_of_ble_eq_true rfl) (fun k hk => ?_)⟩
 refine (w_82 l0 k).trans ?_
 replace h : impl_BoxOk.f N l0 = some t := h
 unfold impl_BoxOk.f at h
 exact (L_82 N) _ _ _ _ _ _ h hk
noncomputable def C_168 : Ctr tau Unit := ctrS 82 c_82 C_82
noncomputable def D_168 : Drw tau := drawA E_168 C_168
theorem okC_168 : CtrOk Try.prog TT pnT C_168 := ctrS_ok okC_82 okc_82
theorem mC_168 : CtrMono C_168 := ctrS_mono mC_82 mc_82
theorem mD_168 : DrMono D_168 := drawA_mono mC_168
noncomputable def B_168 : Code := Try.f168.body.getD .skip
theorem mc_168 (args : List (AV tau)) (m : Mem tau) (k k' : AV tau → Mem tau → Option Unit) (hk : ∀ av m, k av m = some () → k' av m = some ()) (h : c_168 args m k = some ()) : c_168 args m k' = some () := by
 unfold c_168 at h ⊢
 split at h
 · repeat' first | exact callX_mono (fun _ h => hk _ _ h) h | refine bO_mono (fun _ h => ?_) h
 · cases h
theorem w_168 (a0 : Int) (k : AV tau → Mem tau → Option Unit) : fnA E_168 C_168 D_168 Try.f168 B_168 [.int .i64 a0] ⟨[], []⟩ k = (callX (fun n => impl_in.f a0 (0 : Int) (3 : Int)) fun t0 => k (.bool t0) ⟨[], []⟩ : Option Unit) := by kernel_rfl
theorem okc_168 (args : List (AV tau)) (m : Mem tau) (κ : AV tau → Mem tau → Option Unit) (hh : c_168 args m κ = some ()) : ∃ av m1, κ av m1 = some () ∧ ToldA Try.prog TT (pnT 168) 168 args m av m1 := by
 obtain ⟨bx_, rw_⟩ := m
 unfold c_168 at hh
 simp only at hh
 split at hh
 case h_2 => cases hh
 rename_i b0
 obtain ⟨a0, hx0, hh0⟩ := bO_some hh
 have ex0 := asI_some hx0
 subst ex0
 obtain ⟨N, t, h, hκ⟩ := callX_some hh0
 refine ⟨_, _, hκ, told_of_run pq okC_168 (fun _ _ _ => drawA_ok pq okC_168 hmix) (E := E_168) (fn := Try.f168) (body := B_168) (by kernel_rfl) (by kernel_rfl) (by kernel_rfl) (by rfl) (by exact Nat.le_of_ble_eq_true rfl) (fun k hk => ?_)⟩
 refine (w_168 a0 k).trans ?_
 replace h : impl_insOk_1.f a0 = some t := h
 unfold impl_insOk_1.f at h
 refine call_h 0 h (fun t0 e2 h => ?_)
 cases h; exact hk
noncomputable def C_169 : Ctr tau Unit := ctrS 168 c_168 C_168
noncomputable def D_169 : Drw tau := drawA E_169 C_169
theorem okC_169 : CtrOk Try.prog TT pnT C_169 := ctrS_ok okC_168 okc_168
theorem mC_169 : CtrMono C_169 := ctrS_mono mC_168 mc_168
theorem mD_169 : DrMono D_169 := drawA_mono mC_169
noncomputable def B_169 : Code := Try.f169.body.getD .skip
theorem mc_169 (args : List (AV tau)) (m : Mem tau) (k k' : AV tau → Mem tau → Option Unit) (hk : ∀ av m, k av m = some () → k' av m = some ()) (h : c_169 args m k = some ()) : c_169 args m k' = some () := by
 unfold c_169 at h ⊢
 split at h
 · repeat' first | exact callX_mono (fun _ h => hk _ _ h) h | refine bO_mono (fun _ h => ?_) h
 · cases h
theorem w_169 (a0 : Int) (k : AV tau → Mem tau → Option Unit) : fnA E_169 C_169 D_169 Try.f169 B_169 [.int .i64 a0] ⟨[], []⟩ k = (callX (fun n => impl_in.f a0 (0 : Int) (3 : Int)) fun t0 => k (.bool t0) ⟨[], []⟩ : Option Unit) := by kernel_rfl
theorem okc_169 (args : List (AV tau)) (m : Mem tau) (κ : AV tau → Mem tau → Option Unit) (hh : c_169 args m κ = some ()) : ∃ av m1, κ av m1 = some () ∧ ToldA Try.prog TT (pnT 169) 169 args m av m1 := by
 obtain ⟨bx_, rw_⟩ := m
 unfold c_169 at hh
 simp only at hh
 split at hh
 case h_2 => cases hh
 rename_i b0
 obtain ⟨a0, hx0, hh0⟩ := bO_some hh
 have ex0 := asI_some hx0
 subst ex0
 obtain ⟨N, t, h, hκ⟩ := callX_some hh0
 refine ⟨_, _, hκ, told_of_run pq okC_169 (fun _ _ _ => drawA_ok pq okC_169 hmix) (E := E_169) (fn := Try.f169) (body := B_169) (by kernel_rfl) (by kernel_rfl) (by kernel_rfl) (by rfl) (by exact Nat.le_of_ble_eq_true rfl) (fun k hk => ?_)⟩
 refine (w_169 a0 k).trans ?_
 replace h : impl_insOk_2.f a0 = some t := h
 unfold impl_insOk_2.f at h
 refine call_h 0 h (fun t0 e2 h => ?_)
 cases h; exact hk
noncomputable def C_151 : Ctr tau Unit := ctrS 169 c_169 C_169
noncomputable def D_151 : Drw tau := drawA E_151 C_151
theorem okC_151 : CtrOk Try.prog TT pnT C_151 := ctrS_ok okC_169 okc_169
theorem mC_151 : CtrMono C_151 := ctrS_mono mC_169 mc_169
theorem mD_151 : DrMono D_151 := drawA_mono mC_151
noncomputable def B_151 : Code := Try.f151.body.getD .skip
theorem mc_151 (args : List (AV tau)) (m : Mem tau) (k k' : AV tau → Mem tau → Option Unit) (hk : ∀ av m, k av m = some () → k' av m = some ()) (h : c_151 args m k = some ()) : c_151 args m k' = some () := by
 unfold c_151 at h ⊢
 split at h
 · repeat' first | exact callX_mono (fun _ h => hk _ _ h) h | refine bO_mono (fun _ h => ?_) h
 · cases h
theorem w_151 (a0_0 : Int) (a0_1 : Int) (a0_2 : Int) (a0_3 : Int) (k : AV tau → Mem tau → Option Unit) : fnA E_151 C_151 D_151 Try.f151 B_151 [.agg [.int .i64 a0_0, .int .i64 a0_1, .int .i64 a0_2, .int .i64 a0_3]] ⟨[], []⟩ k = (brA (decide (a0_0 = (1 : Int))) (callX (fun n => impl_insOk_1.f a0_1) fun t0 => brA t0 (callX (fun n => impl_insOk_2.f a0_2) fun t1 => brA t1 (k (.bool (decide (a0_3 = (0 : Int)))) ⟨[], []⟩) (k (.bool false) ⟨[], []⟩)) (k (.bool false) ⟨[], []⟩)) (brA (decide (a0_0 = (2 : Int))) (callX (fun n => impl_insOk_2.f a0_1) fun t2 => brA t2 (callX (fun n => impl_insOk_1.f a0_2) fun t3 => brA t3 (k (.bool (decide (a0_3 = (0 : Int)))) ⟨[], []⟩) (k (.bool false) ⟨[], []⟩)) (k (.bool false) ⟨[], []⟩)) (brA (decide (a0_0 = (3 : Int))) (callX (fun n => impl_insOk_1.f a0_1) fun t4 => brA t4 (brA (decide (a0_2 = (0 : Int))) (callX (fun n => impl_in.f a0_3 (-(1000000 : Int)) (1000000 : Int)) fun t5 => k (.bool t5) ⟨[], []⟩) (k (.bool false) ⟨[], []⟩)) (k (.bool false) ⟨[], []⟩)) (brA (decide (a0_0 = (4 : Int))) (brA (decide (a0_0 = (4 : Int))) (callX (fun n => impl_insOk_1.f a0_1) fun t6 => brA t6 (callX (fun n => impl_insOk_1.f a0_2) fun t7 => brA t7 (k (.bool (decide (a0_3 = (0 : Int)))) ⟨[], []⟩) (k (.bool false) ⟨[], []⟩)) (k (.bool false) ⟨[], []⟩)) (brA (decide (a0_0 = (6 : Int))) (callX (fun n => impl_insOk_1.f a0_1) fun t8 => brA t8 (callX (fun n => impl_insOk_1.f a0_2) fun t9 => brA t9 (callX (fun n => impl_in.f a0_3 (1 : Int) (10 : Int)) fun t10 => k (.bool t10) ⟨[], []⟩) (k (.bool false) ⟨[], []⟩)) (k (.bool false) ⟨[], []⟩)) (brA (decide (a0_0 = (7 : Int))) (brA (decide (a0_1 = (0 : Int))) (brA (decide (a0_2 = (0 : Int))) (k (.bool (decide (a0_3 = (0 : Int)))) ⟨[], []⟩) (k (.bool false) ⟨[], []⟩)) (k (.bool false) ⟨[], []⟩)) (k (.bool false) ⟨[], []⟩)))) (brA (decide (a0_0 = (5 : Int))) (callX (fun n => impl_insOk_1.f a0_1) fun t11 => brA t11 (callX (fun n => impl_insOk_1.f a0_2) fun t12 => brA t12 (k (.bool (decide (a0_3 = (0 : Int)))) ⟨[], []⟩) (k (.bool false) ⟨[], []⟩)) (k (.bool false) ⟨[], []⟩)) (brA (decide (a0_0 = (6 : Int))) (callX (fun n => impl_insOk_1.f a0_1) fun t13 => brA t13 (callX (fun n => impl_insOk_1.f a0_2) fun t14 => brA t14 (callX (fun n => impl_in.f a0_3 (1 : Int) (10 : Int)) fun t15 => k (.bool t15) ⟨[], []⟩) (k (.bool false) ⟨[], []⟩)) (k (.bool false) ⟨[], []⟩)) (brA (decide (a0_0 = (7 : Int))) (brA (decide (a0_1 = (0 : Int))) (brA (decide (a0_2 = (0 : Int))) (k (.bool (decide (a0_3 = (0 : Int)))) ⟨[], []⟩) (k (.bool false) ⟨[], []⟩)) (k (.bool false) ⟨[], []⟩)) (k (.bool false) ⟨[], []⟩))))))) : Option Unit) := by kernel_rfl
theorem okc_151 (args : List (AV tau)) (m : Mem tau) (κ : AV tau → Mem tau → Option Unit) (hh : c_151 args m κ = some ()) : ∃ av m1, κ av m1 = some () ∧ ToldA Try.prog TT (pnT 151) 151 args m av m1 := by
 obtain ⟨bx_, rw_⟩ := m
 unfold c_151 at hh
 simp only at hh
 split at hh
 case h_2 => cases hh
 rename_i b0 b1 b2 b3
 obtain ⟨a0_0, hx0, hh0⟩ := bO_some hh
 obtain ⟨a0_1, hx1, hh1⟩ := bO_some hh0
 obtain ⟨a0_2, hx2, hh2⟩ := bO_some hh1
 obtain ⟨a0_3, hx3, hh3⟩ := bO_some hh2
 have ex0 := asI_some hx0
 have ex1 := asI_some hx1
 have ex2 := asI_some hx2
 have ex3 := asI_some hx3
 subst ex0 ex1 ex2 ex3
 obtain ⟨N, t, h, hκ⟩ := callX_some hh3
 refine ⟨_, _, hκ, told_of_run pq okC_151 (fun _ _ _ => drawA_ok pq okC_151 hmix) (E := E_151) (fn := Try.f151) (body := B_151) (by kernel_rfl) (by kernel_rfl) (by kernel_rfl) (by rfl) (by exact Nat.le_of_ble_eq_true rfl) (fun k hk => ?_)⟩
 refine (w_151 a0_0 a0_1 a0_2 a0_3 k).trans ?_
 replace h : impl_insOk.f N a0_0 a0_1 a0_2 a0_3 = some t := h
 unfold impl_insOk.f at h
 refine br_ite h rfl (fun c45 h => ?_) (fun c45 h => ?_)
 ·refine call_h 0 h (fun t0 e46 h => ?_)
  refine br_eti h dect (fun c47 h => ?_) (fun c47 h => ?_)
  ·cases h; exact hk
  refine call_h 0 h (fun t1 e48 h => ?_)
  refine br_eti h dect (fun c49 h => ?_) (fun c49 h => ?_)
  ·cases h; exact hk
  cases h; exact hk
 refine br_ite h rfl (fun c50 h => ?_) (fun c50 h => ?_)
 ·refine call_h 0 h (fun t2 e51 h => ?_)
  refine br_eti h dect (fun c52 h => ?_) (fun c52 h => ?_)
  ·cases h; exact hk
  refine call_h 0 h (fun t3 e53 h => ?_)
  refine br_eti h dect (fun c54 h => ?_) (fun c54 h => ?_)
  ·cases h; exact hk
  cases h; exact hk
 refine br_ite h rfl (fun c55 h => ?_) (fun c55 h => ?_)
 ·refine call_h 0 h (fun t4 e56 h => ?_)
  refine br_eti h dect (fun c57 h => ?_) (fun c57 h => ?_)
  ·cases h; exact hk
  refine br_eti h rfl (fun c58 h => ?_) (fun c58 h => ?_)
  ·cases h; exact hk
  refine call_h 0 h (fun t5 e59 h => ?_)
  cases h; exact hk
 refine br_ite h rfl (fun c60 h => ?_) (fun c60 h => ?_)
 ·rcases N with _ | N
  · cases h
  first | rw [impl_insOk.j0] at h | simp only [impl_insOk.j0] at h | (unfold impl_insOk.j0 at h; dsimp only at h)
  refine br_ite h (by first | rfl | exact dect | exact (congrArg not dect) | (simp; done) | (simp [beqI]; done) | (simp; omega)) (fun c61 h => ?_) (fun c61 h => ?_)
  ·refine call_h 0 h (fun t6 e62 h => ?_)
   refine br_eti h dect (fun c63 h => ?_) (fun c63 h => ?_)
   ·cases h; exact hk
   refine call_h 0 h (fun t7 e64 h => ?_)
   refine br_eti h dect (fun c65 h => ?_) (fun c65 h => ?_)
   ·cases h; exact hk
   cases h; exact hk
  refine br_eti h rfl (fun c66 h => ?_) (fun c66 h => ?_)
  ·refine br_eti h rfl (fun c67 h => ?_) (fun c67 h => ?_)
   ·cases h; exact hk
   refine br_eti h rfl (fun c68 h => ?_) (fun c68 h => ?_)
   ·cases h; exact hk
   refine br_eti h rfl (fun c69 h => ?_) (fun c69 h => ?_)
   ·cases h; exact hk
   cases h; exact hk
  refine call_h 0 h (fun t8 e70 h => ?_)
  refine br_eti h dect (fun c71 h => ?_) (fun c71 h => ?_)
  ·cases h; exact hk
  refine call_h 0 h (fun t9 e72 h => ?_)
  refine br_eti h dect (fun c73 h => ?_) (fun c73 h => ?_)
  ·cases h; exact hk
  refine call_h 0 h (fun t10 e74 h => ?_)
  cases h; exact hk
 rcases N with _ | N
 · cases h
 first | rw [impl_insOk.j0] at h | simp only [impl_insOk.j0] at h | (unfold impl_insOk.j0 at h; dsimp only at h)
 refine br_ite h (by first | rfl | exact dect | exact (congrArg not dect) | (simp; done) | (simp [beqI]; done) | (simp; omega)) (fun c75 h => ?_) (fun c75 h => ?_)
 ·refine call_h 0 h (fun t11 e76 h => ?_)
  refine br_eti h dect (fun c77 h => ?_) (fun c77 h => ?_)
  ·cases h; exact hk
  refine call_h 0 h (fun t12 e78 h => ?_)
  refine br_eti h dect (fun c79 h => ?_) (fun c79 h => ?_)
  ·cases h; exact hk
  cases h; exact hk
 refine br_eti h rfl (fun c80 h => ?_) (fun c80 h => ?_)
 ·refine br_eti h rfl (fun c81 h => ?_) (fun c81 h => ?_)
  ·cases h; exact hk
  refine br_eti h rfl (fun c82 h => ?_) (fun c82 h => ?_)
  ·cases h; exact hk
  refine br_eti h rfl (fun c83 h => ?_) (fun c83 h => ?_)
  ·cases h; exact hk
  cases h; exact hk
 refine call_h 0 h (fun t13 e84 h => ?_)
 refine br_eti h dect (fun c85 h => ?_) (fun c85 h => ?_)
 ·cases h; exact hk
 refine call_h 0 h (fun t14 e86 h => ?_)
 refine br_eti h dect (fun c87 h => ?_) (fun c87 h => ?_)
 ·cases h; exact hk
 refine call_h 0 h (fun t15 e88 h => ?_)
 cases h; exact hk
noncomputable def C_102 : Ctr tau Unit := ctrS 151 c_151 C_151
noncomputable def D_102 : Drw tau := drawA E_102 C_102
theorem okC_102 : CtrOk Try.prog TT pnT C_102 := ctrS_ok okC_151 okc_151
theorem mC_102 : CtrMono C_102 := ctrS_mono mC_151 mc_151
theorem mD_102 : DrMono D_102 := drawA_mono mC_102
noncomputable def B_102 : Code := Try.f102.body.getD .skip
theorem mc_102 (args : List (AV tau)) (m : Mem tau) (k k' : AV tau → Mem tau → Option Unit) (hk : ∀ av m, k av m = some () → k' av m = some ()) (h : c_102 args m k = some ()) : c_102 args m k' = some () := by
 unfold c_102 at h ⊢
 split at h
 · repeat' first | exact callX_mono (fun _ h => hk _ _ h) h | refine bO_mono (fun _ h => ?_) h
 · cases h
noncomputable def K_102_0 (k : AV tau → Mem tau → Option Unit) : Kon tau := (kBlock 0 (kS E_102 C_102 D_102 (codeP B_102 [1, 1]) (kEnd E_102 Try.f102 k)))
def st_102_0 (x0 : (List S95)) (x1 : (List S95)) (x2 : Int) (x3 : Int) : St tau := ⟨tmL 18 0 [(0, .sl 95 x0), (5, .sl 95 x1), (6, .int .i64 x2), (7, .int .i64 x3)], ⟨[], []⟩⟩
noncomputable def LP_102_0 (k : AV tau → Mem tau → Option Unit) (x0 : (List S95)) (x1 : (List S95)) (x2 : Int) (x3 : Int) : Option Unit := loopA E_102 (codeA E_102 C_102 D_102 (codeP B_102 [1, 0, 1, 0, 0])) (codeP B_102 [1, 0, 1, 0, 0]) (K_102_0 k) (st_102_0 x0 x1 x2 x3)
theorem w_102_0 (k : AV tau → Mem tau → Option Unit) (x0 : (List S95)) (x1 : (List S95)) (x2 : Int) (x3 : Int) : codeA E_102 C_102 D_102 (codeP B_102 [1, 0, 1, 0, 0]) (kL E_102 C_102 D_102 (codeP B_102 [1, 0, 1, 0, 0]) (K_102_0 k)) (st_102_0 x0 x1 x2 x3) = (brA (decide (x3 < x2)) (brA (decide ((0 : Int) ≤ x3)) (brA (decide (x3 < ((x1.length : Nat) : Int))) (callX (fun n => impl_insOk.f n ((rd_T95 x1 x3).f0) ((rd_T95 x1 x3).f1) ((rd_T95 x1 x3).f2) ((rd_T95 x1 x3).f3)) fun t0 => brA (!t0) (k (.bool false) ⟨[], []⟩) (LP_102_0 k x0 x1 x2 (wrap64 (x3 + (1 : Int))))) (none)) (none)) (k (.bool (decide (((x0.length : Nat) : Int) ≤ (10 : Int)))) ⟨[], []⟩) : Option Unit) := by
 simp only [← wrapA_i64]
 kernel_rfl
theorem w_102 (l0 : List S95) (k : AV tau → Mem tau → Option Unit) : fnA E_102 C_102 D_102 Try.f102 B_102 [.sl 95 l0] ⟨[], []⟩ k = (LP_102_0 k l0 l0 ((l0.length : Nat) : Int) (0 : Int) : Option Unit) := by kernel_rfl
def S_102_0 (N : Nat) : Prop := ∀ (k : AV tau → Mem tau → Option Unit) (x0 : (List S95)) (x1 : (List S95)) (x2 : Int) (x3 : Int) (r : Bool), impl_ProgOk.l0 N (x0) (x1) (x2) (x3) = some r → k (.bool (r)) ⟨[], []⟩ = some () → LP_102_0 k x0 x1 x2 x3 = some ()
theorem L_102 (N : Nat) : S_102_0 N := by
 induction N using Nat.strongRecOn with | _ N0 ih =>
 skip
 intro k x0 x1 x2 x3 r h hk
 rcases N0 with _ | N
 · cases h
 first | rw [impl_ProgOk.l0] at h | simp only [impl_ProgOk.l0] at h | (unfold impl_ProgOk.l0 at h; dsimp only at h)
 refine loop_fold mC_102 mD_102 ?_
 refine (w_102_0 k x0 x1 x2 x3).trans ?_
 refine br_eti h rfl (fun c11 h => ?_) (fun c11 h => ?_)
 ·cases h; exact hk
 refine br_g h rfl (fun c12 h => ?_)
 refine br_g h rfl (fun c13 h => ?_)
 refine call_h N h (fun t0 e14 h => ?_)
 refine br_etn h (congrArg not dect) (fun c15 h => ?_) (fun c15 h => ?_)
 ·cases h; exact hk
 exact (ih N (by omega)) _ _ _ _ _ _ h hk
theorem okc_102 (args : List (AV tau)) (m : Mem tau) (κ : AV tau → Mem tau → Option Unit) (hh : c_102 args m κ = some ()) : ∃ av m1, κ av m1 = some () ∧ ToldA Try.prog TT (pnT 102) 102 args m av m1 := by
 obtain ⟨bx_, rw_⟩ := m
 unfold c_102 at hh
 simp only at hh
 split at hh
 case h_2 => cases hh
 rename_i b0
 obtain ⟨l0, hx0, hh0⟩ := bO_some hh
 have ex0 := asSl_some hx0
 subst ex0
 obtain ⟨N, t, h, hκ⟩ := callX_some hh0
 refine ⟨_, _, hκ, told_of_run pq okC_102 (fun _ _ _ => drawA_ok pq okC_102 hmix) (E := E_102) (fn := Try.f102) (body := B_102) (by kernel_rfl) (by kernel_rfl) (by kernel_rfl) (by rfl) (by exact Nat.le_of_ble_eq_true rfl) (fun k hk => ?_)⟩
 refine (w_102 l0 k).trans ?_
 replace h : impl_ProgOk.f N l0 = some t := h
 unfold impl_ProgOk.f at h
 exact (L_102 N) _ _ _ _ _ _ h hk
noncomputable def C_126 : Ctr tau Unit := ctrS 102 c_102 C_102
noncomputable def D_126 : Drw tau := drawA E_126 C_126
theorem okC_126 : CtrOk Try.prog TT pnT C_126 := ctrS_ok okC_102 okc_102
theorem mC_126 : CtrMono C_126 := ctrS_mono mC_102 mc_102
theorem mD_126 : DrMono D_126 := drawA_mono mC_126
noncomputable def B_126 : Code := Try.f126.body.getD .skip
theorem mc_126 (args : List (AV tau)) (m : Mem tau) (k k' : AV tau → Mem tau → Option Unit) (hk : ∀ av m, k av m = some () → k' av m = some ()) (h : c_126 args m k = some ()) : c_126 args m k' = some () := by
 unfold c_126 at h ⊢
 split at h
 · repeat' first | exact callX_mono (fun _ h => hk _ _ h) h | refine bO_mono (fun _ h => ?_) h
 · cases h
noncomputable def K_126_0 (k : AV tau → Mem tau → Option Unit) : Kon tau := (kBlock 0 (kS E_126 C_126 D_126 (codeP B_126 [1, 1]) (kEnd E_126 Try.f126 k)))
def st_126_0 (x0 : Int) (x1 : (List S82)) (x2 : Int) (x3 : Int) : St tau := ⟨tmL 21 0 [(1, .int .i64 x0), (8, .sl 82 x1), (9, .int .i64 x2), (10, .int .i64 x3)], ⟨[], []⟩⟩
noncomputable def LP_126_0 (k : AV tau → Mem tau → Option Unit) (x0 : Int) (x1 : (List S82)) (x2 : Int) (x3 : Int) : Option Unit := loopA E_126 (codeA E_126 C_126 D_126 (codeP B_126 [1, 0, 1, 0, 0])) (codeP B_126 [1, 0, 1, 0, 0]) (K_126_0 k) (st_126_0 x0 x1 x2 x3)
theorem w_126_0 (k : AV tau → Mem tau → Option Unit) (x0 : Int) (x1 : (List S82)) (x2 : Int) (x3 : Int) : codeA E_126 C_126 D_126 (codeP B_126 [1, 0, 1, 0, 0]) (kL E_126 C_126 D_126 (codeP B_126 [1, 0, 1, 0, 0]) (K_126_0 k)) (st_126_0 x0 x1 x2 x3) = (brA (decide (x3 < x2)) (brA (decide ((0 : Int) ≤ x3)) (brA (decide (x3 < ((x1.length : Nat) : Int))) (brA (decide ((rd_T82 x1 x3).f0 = x0)) (k (.int .i64 x3) ⟨[], []⟩) (LP_126_0 k x0 x1 x2 (wrap64 (x3 + (1 : Int))))) (none)) (none)) (k (.int .i64 (-(1 : Int))) ⟨[], []⟩) : Option Unit) := by
 simp only [← wrapA_i64]
 kernel_rfl
theorem w_126 (l0_0 : List S39) (l0_1 : List S82) (a0_2 : Int) (a0_3 : Int) (a1 : Int) (k : AV tau → Mem tau → Option Unit) : fnA E_126 C_126 D_126 Try.f126 B_126 [.agg [.sl 39 l0_0, .sl 82 l0_1, .int .i64 a0_2, .int .i64 a0_3], .int .i64 a1] ⟨[], []⟩ k = (LP_126_0 k a1 l0_1 ((l0_1.length : Nat) : Int) (0 : Int) : Option Unit) := by kernel_rfl
def S_126_0 (N : Nat) : Prop := ∀ (k : AV tau → Mem tau → Option Unit) (x0 : Int) (x1 : (List S82)) (x2 : Int) (x3 : Int) (r : Int), impl_putAt.l0 N (x0) (x1) (x2) (x3) = some r → k (.int .i64 (r)) ⟨[], []⟩ = some () → LP_126_0 k x0 x1 x2 x3 = some ()
theorem L_126 (N : Nat) : S_126_0 N := by
 induction N using Nat.strongRecOn with | _ N0 ih =>
 skip
 intro k x0 x1 x2 x3 r h hk
 rcases N0 with _ | N
 · cases h
 first | rw [impl_putAt.l0] at h | simp only [impl_putAt.l0] at h | (unfold impl_putAt.l0 at h; dsimp only at h)
 refine loop_fold mC_126 mD_126 ?_
 refine (w_126_0 k x0 x1 x2 x3).trans ?_
 refine br_eti h rfl (fun c9 h => ?_) (fun c9 h => ?_)
 ·cases h; exact hk
 refine br_g h rfl (fun c10 h => ?_)
 refine br_g h rfl (fun c11 h => ?_)
 refine br_ite h rfl (fun c12 h => ?_) (fun c12 h => ?_)
 ·cases h; exact hk
 exact (ih N (by omega)) _ _ _ _ _ _ h hk
theorem okc_126 (args : List (AV tau)) (m : Mem tau) (κ : AV tau → Mem tau → Option Unit) (hh : c_126 args m κ = some ()) : ∃ av m1, κ av m1 = some () ∧ ToldA Try.prog TT (pnT 126) 126 args m av m1 := by
 obtain ⟨bx_, rw_⟩ := m
 unfold c_126 at hh
 simp only at hh
 split at hh
 case h_2 => cases hh
 rename_i b0 b1 b2 b3 b4
 obtain ⟨l0_0, hx0, hh0⟩ := bO_some hh
 obtain ⟨l0_1, hx1, hh1⟩ := bO_some hh0
 obtain ⟨a0_2, hx2, hh2⟩ := bO_some hh1
 obtain ⟨a0_3, hx3, hh3⟩ := bO_some hh2
 obtain ⟨a1, hx4, hh4⟩ := bO_some hh3
 have ex0 := asSl_some hx0
 have ex1 := asSl_some hx1
 have ex2 := asI_some hx2
 have ex3 := asI_some hx3
 have ex4 := asI_some hx4
 subst ex0 ex1 ex2 ex3 ex4
 obtain ⟨N, t, h, hκ⟩ := callX_some hh4
 refine ⟨_, _, hκ, told_of_run pq okC_126 (fun _ _ _ => drawA_ok pq okC_126 hmix) (E := E_126) (fn := Try.f126) (body := B_126) (by kernel_rfl) (by kernel_rfl) (by kernel_rfl) (by rfl) (by exact Nat.le_of_ble_eq_true rfl) (fun k hk => ?_)⟩
 refine (w_126 l0_0 l0_1 a0_2 a0_3 a1 k).trans ?_
 replace h : impl_putAt.f N l0_0 l0_1 a0_2 a0_3 a1 = some t := h
 unfold impl_putAt.f at h
 exact (L_126 N) _ _ _ _ _ _ h hk
noncomputable def C_127 : Ctr tau Unit := ctrS 126 c_126 C_126
noncomputable def D_127 : Drw tau := drawA E_127 C_127
theorem okC_127 : CtrOk Try.prog TT pnT C_127 := ctrS_ok okC_126 okc_126
theorem mC_127 : CtrMono C_127 := ctrS_mono mC_126 mc_126
theorem mD_127 : DrMono D_127 := drawA_mono mC_127
noncomputable def B_127 : Code := Try.f127.body.getD .skip
theorem mc_127 (args : List (AV tau)) (m : Mem tau) (k k' : AV tau → Mem tau → Option Unit) (hk : ∀ av m, k av m = some () → k' av m = some ()) (h : c_127 args m k = some ()) : c_127 args m k' = some () := by
 unfold c_127 at h ⊢
 split at h
 · repeat' first | exact callX_mono (fun _ h => hk _ _ h) h | refine bO_mono (fun _ h => ?_) h
 · cases h
noncomputable def K_127_0 (k : AV tau → Mem tau → Option Unit) : Kon tau := (kBlock 0 (kS E_127 C_127 D_127 (codeP B_127 [1, 1]) (kEnd E_127 Try.f127 k)))
def st_127_0 (x0 : Int) (x1 : (List S39)) (x2 : Int) (x3 : Int) : St tau := ⟨tmL 21 0 [(1, .int .i64 x0), (8, .sl 39 x1), (9, .int .i64 x2), (10, .int .i64 x3)], ⟨[], []⟩⟩
noncomputable def LP_127_0 (k : AV tau → Mem tau → Option Unit) (x0 : Int) (x1 : (List S39)) (x2 : Int) (x3 : Int) : Option Unit := loopA E_127 (codeA E_127 C_127 D_127 (codeP B_127 [1, 0, 1, 0, 0])) (codeP B_127 [1, 0, 1, 0, 0]) (K_127_0 k) (st_127_0 x0 x1 x2 x3)
theorem w_127_0 (k : AV tau → Mem tau → Option Unit) (x0 : Int) (x1 : (List S39)) (x2 : Int) (x3 : Int) : codeA E_127 C_127 D_127 (codeP B_127 [1, 0, 1, 0, 0]) (kL E_127 C_127 D_127 (codeP B_127 [1, 0, 1, 0, 0]) (K_127_0 k)) (st_127_0 x0 x1 x2 x3) = (brA (decide (x3 < x2)) (brA (decide ((0 : Int) ≤ x3)) (brA (decide (x3 < ((x1.length : Nat) : Int))) (brA (decide ((rd_T39 x1 x3).f0 = x0)) (k (.int .i64 x3) ⟨[], []⟩) (LP_127_0 k x0 x1 x2 (wrap64 (x3 + (1 : Int))))) (none)) (none)) (k (.int .i64 (-(1 : Int))) ⟨[], []⟩) : Option Unit) := by
 simp only [← wrapA_i64]
 kernel_rfl
theorem w_127 (l0_0 : List S39) (l0_1 : List S82) (a0_2 : Int) (a0_3 : Int) (a1 : Int) (k : AV tau → Mem tau → Option Unit) : fnA E_127 C_127 D_127 Try.f127 B_127 [.agg [.sl 39 l0_0, .sl 82 l0_1, .int .i64 a0_2, .int .i64 a0_3], .int .i64 a1] ⟨[], []⟩ k = (LP_127_0 k a1 l0_0 ((l0_0.length : Nat) : Int) (0 : Int) : Option Unit) := by kernel_rfl
def S_127_0 (N : Nat) : Prop := ∀ (k : AV tau → Mem tau → Option Unit) (x0 : Int) (x1 : (List S39)) (x2 : Int) (x3 : Int) (r : Int), impl_readAt.l0 N (x0) (x1) (x2) (x3) = some r → k (.int .i64 (r)) ⟨[], []⟩ = some () → LP_127_0 k x0 x1 x2 x3 = some ()
theorem L_127 (N : Nat) : S_127_0 N := by
 induction N using Nat.strongRecOn with | _ N0 ih =>
 skip
 intro k x0 x1 x2 x3 r h hk
 rcases N0 with _ | N
 · cases h
 first | rw [impl_readAt.l0] at h | simp only [impl_readAt.l0] at h | (unfold impl_readAt.l0 at h; dsimp only at h)
 refine loop_fold mC_127 mD_127 ?_
 refine (w_127_0 k x0 x1 x2 x3).trans ?_
 refine br_eti h rfl (fun c9 h => ?_) (fun c9 h => ?_)
 ·cases h; exact hk
 refine br_g h rfl (fun c10 h => ?_)
 refine br_g h rfl (fun c11 h => ?_)
 refine br_ite h rfl (fun c12 h => ?_) (fun c12 h => ?_)
 ·cases h; exact hk
 exact (ih N (by omega)) _ _ _ _ _ _ h hk
theorem okc_127 (args : List (AV tau)) (m : Mem tau) (κ : AV tau → Mem tau → Option Unit) (hh : c_127 args m κ = some ()) : ∃ av m1, κ av m1 = some () ∧ ToldA Try.prog TT (pnT 127) 127 args m av m1 := by
 obtain ⟨bx_, rw_⟩ := m
 unfold c_127 at hh
 simp only at hh
 split at hh
 case h_2 => cases hh
 rename_i b0 b1 b2 b3 b4
 obtain ⟨l0_0, hx0, hh0⟩ := bO_some hh
 obtain ⟨l0_1, hx1, hh1⟩ := bO_some hh0
 obtain ⟨a0_2, hx2, hh2⟩ := bO_some hh1
 obtain ⟨a0_3, hx3, hh3⟩ := bO_some hh2
 obtain ⟨a1, hx4, hh4⟩ := bO_some hh3
 have ex0 := asSl_some hx0
 have ex1 := asSl_some hx1
 have ex2 := asI_some hx2
 have ex3 := asI_some hx3
 have ex4 := asI_some hx4
 subst ex0 ex1 ex2 ex3 ex4
 obtain ⟨N, t, h, hκ⟩ := callX_some hh4
 refine ⟨_, _, hκ, told_of_run pq okC_127 (fun _ _ _ => drawA_ok pq okC_127 hmix) (E := E_127) (fn := Try.f127) (body := B_127) (by kernel_rfl) (by kernel_rfl) (by kernel_rfl) (by rfl) (by exact Nat.le_of_ble_eq_true rfl) (fun k hk => ?_)⟩
 refine (w_127 l0_0 l0_1 a0_2 a0_3 a1 k).trans ?_
 replace h : impl_readAt.f N l0_0 l0_1 a0_2 a0_3 a1 = some t := h
 unfold impl_readAt.f at h
 exact (L_127 N) _ _ _ _ _ _ h hk
noncomputable def C_128 : Ctr tau Unit := ctrS 127 c_127 C_127
noncomputable def D_128 : Drw tau := drawA E_128 C_128
theorem okC_128 : CtrOk Try.prog TT pnT C_128 := ctrS_ok okC_127 okc_127
theorem mC_128 : CtrMono C_128 := ctrS_mono mC_127 mc_127
theorem mD_128 : DrMono D_128 := drawA_mono mC_128
noncomputable def B_128 : Code := Try.f128.body.getD .skip
theorem mc_128 (args : List (AV tau)) (m : Mem tau) (k k' : AV tau → Mem tau → Option Unit) (hk : ∀ av m, k av m = some () → k' av m = some ()) (h : c_128 args m k = some ()) : c_128 args m k' = some () := by
 unfold c_128 at h ⊢
 split at h
 · repeat' first | exact callX_mono (fun _ h => hk _ _ h) h | refine bO_mono (fun _ h => ?_) h
 · cases h
theorem w_128 (l0 : List S39) (k : AV tau → Mem tau → Option Unit) : fnA E_128 C_128 D_128 Try.f128 B_128 [.sl 39 l0] ⟨[], []⟩ k = (brA (decide (((l0.length : Nat) : Int) = (0 : Int))) (k (.own 0 0) ⟨[], [some ⟨39, ([] : List S39), 0⟩]⟩) (brA (decide ((Int.toNat ((l0.length : Nat) : Int)) ≤ 17592186044416)) (k (.own 0 0) ⟨[], [some ⟨39, ((List.take ((List.replicate (Int.toNat ((l0.length : Nat) : Int)) (⟨(0 : Int), (0 : Int)⟩ : S39)).length) l0) ++ (List.drop l0.length (List.replicate (Int.toNat ((l0.length : Nat) : Int)) (⟨(0 : Int), (0 : Int)⟩ : S39)))), 0⟩]⟩) (none)) : Option Unit) := by kernel_rfl
theorem okc_128 (args : List (AV tau)) (m : Mem tau) (κ : AV tau → Mem tau → Option Unit) (hh : c_128 args m κ = some ()) : ∃ av m1, κ av m1 = some () ∧ ToldA Try.prog TT (pnT 128) 128 args m av m1 := by
 obtain ⟨bx_, rw_⟩ := m
 unfold c_128 at hh
 simp only at hh
 split at hh
 case h_2 => cases hh
 rename_i b0
 obtain ⟨l0, hx0, hh0⟩ := bO_some hh
 have ex0 := asSl_some hx0
 subst ex0
 obtain ⟨N, t, h, hκ⟩ := callX_some hh0
 refine ⟨_, _, hκ, told_of_run pq okC_128 (fun _ _ _ => drawA_ok pq okC_128 hmix) (E := E_128) (fn := Try.f128) (body := B_128) (by kernel_rfl) (by kernel_rfl) (by kernel_rfl) (by rfl) (by exact Nat.le_of_ble_eq_true rfl) (fun k hk => ?_)⟩
 refine (w_128 l0 k).trans ?_
 replace h : impl_copied_impl_Read.f l0 = some t := h
 unfold impl_copied_impl_Read.f at h
 refine ite_x h (fun c1 h => ?_) (fun _ h => by cases h)
 cases h
 exact copied_of (α := S39) l0 _ _ (k := fun q : List S39 => k (.own 0 0) ⟨[], [some ⟨39, q, 0⟩]⟩) c1 hk
noncomputable def C_129 : Ctr tau Unit := ctrS 128 c_128 C_128
noncomputable def D_129 : Drw tau := drawA E_129 C_129
theorem okC_129 : CtrOk Try.prog TT pnT C_129 := ctrS_ok okC_128 okc_128
theorem mC_129 : CtrMono C_129 := ctrS_mono mC_128 mc_128
theorem mD_129 : DrMono D_129 := drawA_mono mC_129
noncomputable def B_129 : Code := Try.f129.body.getD .skip
theorem mc_129 (args : List (AV tau)) (m : Mem tau) (k k' : AV tau → Mem tau → Option Unit) (hk : ∀ av m, k av m = some () → k' av m = some ()) (h : c_129 args m k = some ()) : c_129 args m k' = some () := by
 unfold c_129 at h ⊢
 split at h
 · repeat' first | exact callX_mono (fun _ h => hk _ _ h) h | refine bO_mono (fun _ h => ?_) h
 · cases h
theorem w_129 (l0 : List S82) (k : AV tau → Mem tau → Option Unit) : fnA E_129 C_129 D_129 Try.f129 B_129 [.sl 82 l0] ⟨[], []⟩ k = (brA (decide (((l0.length : Nat) : Int) = (0 : Int))) (k (.own 0 0) ⟨[], [some ⟨82, ([] : List S82), 0⟩]⟩) (brA (decide ((Int.toNat ((l0.length : Nat) : Int)) ≤ 17592186044416)) (k (.own 0 0) ⟨[], [some ⟨82, ((List.take ((List.replicate (Int.toNat ((l0.length : Nat) : Int)) (⟨(0 : Int), (0 : Int)⟩ : S82)).length) l0) ++ (List.drop l0.length (List.replicate (Int.toNat ((l0.length : Nat) : Int)) (⟨(0 : Int), (0 : Int)⟩ : S82)))), 0⟩]⟩) (none)) : Option Unit) := by kernel_rfl
theorem okc_129 (args : List (AV tau)) (m : Mem tau) (κ : AV tau → Mem tau → Option Unit) (hh : c_129 args m κ = some ()) : ∃ av m1, κ av m1 = some () ∧ ToldA Try.prog TT (pnT 129) 129 args m av m1 := by
 obtain ⟨bx_, rw_⟩ := m
 unfold c_129 at hh
 simp only at hh
 split at hh
 case h_2 => cases hh
 rename_i b0
 obtain ⟨l0, hx0, hh0⟩ := bO_some hh
 have ex0 := asSl_some hx0
 subst ex0
 obtain ⟨N, t, h, hκ⟩ := callX_some hh0
 refine ⟨_, _, hκ, told_of_run pq okC_129 (fun _ _ _ => drawA_ok pq okC_129 hmix) (E := E_129) (fn := Try.f129) (body := B_129) (by kernel_rfl) (by kernel_rfl) (by kernel_rfl) (by rfl) (by exact Nat.le_of_ble_eq_true rfl) (fun k hk => ?_)⟩
 refine (w_129 l0 k).trans ?_
 replace h : impl_copied_impl_Put.f l0 = some t := h
 unfold impl_copied_impl_Put.f at h
 refine ite_x h (fun c1 h => ?_) (fun _ h => by cases h)
 cases h
 exact copied_of (α := S82) l0 _ _ (k := fun q : List S82 => k (.own 0 0) ⟨[], [some ⟨82, q, 0⟩]⟩) c1 hk
noncomputable def C_61 : Ctr tau Unit := ctrS 129 c_129 C_129
noncomputable def D_61 : Drw tau := drawA E_61 C_61
theorem okC_61 : CtrOk Try.prog TT pnT C_61 := ctrS_ok okC_129 okc_129
theorem mC_61 : CtrMono C_61 := ctrS_mono mC_129 mc_129
theorem mD_61 : DrMono D_61 := drawA_mono mC_61
noncomputable def B_61 : Code := Try.f61.body.getD .skip
theorem mc_61 (args : List (AV tau)) (m : Mem tau) (k k' : AV tau → Mem tau → Option Unit) (hk : ∀ av m, k av m = some () → k' av m = some ()) (h : c_61 args m k = some ()) : c_61 args m k' = some () := by
 unfold c_61 at h ⊢
 split at h
 · repeat' first | exact callX_mono (fun _ h => hk _ _ h) h | refine bO_mono (fun _ h => ?_) h
 · cases h
noncomputable def K_61_0 (k : AV tau → Mem tau → Option Unit) : Kon tau := (kBlock 0 (kS E_61 C_61 D_61 (codeP B_61 [1, 1, 1, 1, 1]) (kEnd E_61 Try.f61 k)))
noncomputable def K_61_1 (k : AV tau → Mem tau → Option Unit) : Kon tau := (kBlock 3 (kBlock 1 (kS E_61 C_61 D_61 (codeP B_61 [1, 1, 1, 1, 0, 1, 0, 0, 1, 1]) (kL E_61 C_61 D_61 (codeP B_61 [1, 1, 1, 1, 0, 1, 0, 0]) (kBlock 0 (kS E_61 C_61 D_61 (codeP B_61 [1, 1, 1, 1, 1]) (kEnd E_61 Try.f61 k)))))))
def st_61_0 (x0 : (List S37)) (x1 : (List S95)) (x2 : Int) (x3 : Int) (x4 : Int) (x5 : Int) (x6 : Int) (x7 : Int) (x8 : Int) (x9 : Int) (x10 : Int) (x11 : (List S39)) (x12 : (List S82)) (x13 : (List S39)) (x14 : (List S82)) : St tau := ⟨tmL 182 0 [(0, .sl 37 x0), (1, .sl 95 x1), (4, .ptr 0 0), (5, .ptr 1 0), (6, .ptr 2 0), (7, .int .i64 x2)], ⟨[some (26, [.own 0 0, .own 1 0, .int .i64 x3, .int .i64 x4]), some (158, [.int .i64 x5, .int .i64 x6, .int .i64 x7, .int .i64 x8]), some (26, [.own 2 0, .own 3 0, .int .i64 x9, .int .i64 x10])], [some ⟨39, x11, 0⟩, some ⟨82, x12, 0⟩, some ⟨39, x13, 0⟩, some ⟨82, x14, 0⟩]⟩⟩
noncomputable def LP_61_0 (k : AV tau → Mem tau → Option Unit) (x0 : (List S37)) (x1 : (List S95)) (x2 : Int) (x3 : Int) (x4 : Int) (x5 : Int) (x6 : Int) (x7 : Int) (x8 : Int) (x9 : Int) (x10 : Int) (x11 : (List S39)) (x12 : (List S82)) (x13 : (List S39)) (x14 : (List S82)) : Option Unit := loopA E_61 (codeA E_61 C_61 D_61 (codeP B_61 [1, 1, 1, 1, 0, 1, 0, 0])) (codeP B_61 [1, 1, 1, 1, 0, 1, 0, 0]) (K_61_0 k) (st_61_0 x0 x1 x2 x3 x4 x5 x6 x7 x8 x9 x10 x11 x12 x13 x14)
def st_61_1 (x0 : (List S37)) (x1 : (List S95)) (x2 : Int) (x3 : Int) (x4 : Int) (x5 : Int) (x6 : Int) (x7 : Int) (x8 : Int) (x9 : Int) (x10 : Int) (x11 : Int) (x12 : Int) (x13 : Int) (x14 : Int) (x15 : Int) (x16 : (List S39)) (x17 : (List S82)) (x18 : (List S39)) (x19 : (List S82)) : St tau := ⟨tmL 182 0 [(0, .sl 37 x0), (1, .sl 95 x1), (4, .ptr 0 0), (5, .ptr 1 0), (6, .ptr 2 0), (7, .int .i64 x2), (161, .agg [.int .i64 x3, .int .i64 x4, .int .i64 x5, .int .i64 x6]), (162, .int .i64 x7)], ⟨[some (26, [.own 0 0, .own 1 0, .int .i64 x8, .int .i64 x9]), some (158, [.int .i64 x10, .int .i64 x11, .int .i64 x12, .int .i64 x13]), some (26, [.own 2 0, .own 3 0, .int .i64 x14, .int .i64 x15])], [some ⟨39, x16, 0⟩, some ⟨82, x17, 0⟩, some ⟨39, x18, 0⟩, some ⟨82, x19, 0⟩]⟩⟩
noncomputable def LP_61_1 (k : AV tau → Mem tau → Option Unit) (x0 : (List S37)) (x1 : (List S95)) (x2 : Int) (x3 : Int) (x4 : Int) (x5 : Int) (x6 : Int) (x7 : Int) (x8 : Int) (x9 : Int) (x10 : Int) (x11 : Int) (x12 : Int) (x13 : Int) (x14 : Int) (x15 : Int) (x16 : (List S39)) (x17 : (List S82)) (x18 : (List S39)) (x19 : (List S82)) : Option Unit := loopA E_61 (codeA E_61 C_61 D_61 (codeP B_61 [1, 1, 1, 1, 0, 1, 0, 0, 1, 0, 0, 1, 1, 1, 0, 0])) (codeP B_61 [1, 1, 1, 1, 0, 1, 0, 0, 1, 0, 0, 1, 1, 1, 0, 0]) (K_61_1 k) (st_61_1 x0 x1 x2 x3 x4 x5 x6 x7 x8 x9 x10 x11 x12 x13 x14 x15 x16 x17 x18 x19)
theorem w_61_0 (k : AV tau → Mem tau → Option Unit) (x0 : (List S37)) (x1 : (List S95)) (x2 : Int) (x3 : Int) (x4 : Int) (x5 : Int) (x6 : Int) (x7 : Int) (x8 : Int) (x9 : Int) (x10 : Int) (x11 : (List S39)) (x12 : (List S82)) (x13 : (List S39)) (x14 : (List S82)) : codeA E_61 C_61 D_61 (codeP B_61 [1, 1, 1, 1, 0, 1, 0, 0]) (kL E_61 C_61 D_61 (codeP B_61 [1, 1, 1, 1, 0, 1, 0, 0]) (K_61_0 k)) (st_61_0 x0 x1 x2 x3 x4 x5 x6 x7 x8 x9 x10 x11 x12 x13 x14) = (brA (decide (x2 < ((x1.length : Nat) : Int))) (brA (decide ((0 : Int) ≤ x2)) (brA (decide (x2 < ((x1.length : Nat) : Int))) (brA (decide ((rd_T95 x1 x2).f0 = (1 : Int))) (callX (fun n => impl_putAt.f n x13 x14 x9 x10 ((rd_T95 x1 x2).f2)) fun t2 => brA (decide (t2 ≥ (0 : Int))) (brA (decide ((0 : Int) ≤ t2)) (brA (decide (t2 < ((x14.length : Nat) : Int))) (brA (decide ((0 : Int) ≤ (rd_T95 x1 x2).f1)) (brA (decide ((rd_T95 x1 x2).f1 < (4 : Int))) (LP_61_1 k x0 x1 x2 (if (rd_T95 x1 x2).f1 = (0 : Int) then (rd_T82 x14 t2).f1 else x5) (if (rd_T95 x1 x2).f1 = (1 : Int) then (rd_T82 x14 t2).f1 else x6) (if (rd_T95 x1 x2).f1 = (2 : Int) then (rd_T82 x14 t2).f1 else x7) (if (rd_T95 x1 x2).f1 = (3 : Int) then (rd_T82 x14 t2).f1 else x8) (0 : Int) x3 x4 (if (rd_T95 x1 x2).f1 = (0 : Int) then (rd_T82 x14 t2).f1 else x5) (if (rd_T95 x1 x2).f1 = (1 : Int) then (rd_T82 x14 t2).f1 else x6) (if (rd_T95 x1 x2).f1 = (2 : Int) then (rd_T82 x14 t2).f1 else x7) (if (rd_T95 x1 x2).f1 = (3 : Int) then (rd_T82 x14 t2).f1 else x8) x9 x10 x11 x12 x13 x14) (none)) (none)) (none)) (none)) (callX (fun n => impl_readAt.f n x13 x14 x9 x10 ((rd_T95 x1 x2).f2)) fun t3 => brA (decide (t3 < (0 : Int))) (brA (decide ((0 : Int) ≤ (rd_T95 x1 x2).f2)) (brA (decide ((rd_T95 x1 x2).f2 < ((x0.length : Nat) : Int))) (brA (decide ((x13.length + 1) ≤ 8796093022208)) (brA (decide ((0 : Int) ≤ (rd_T95 x1 x2).f2)) (brA (decide ((rd_T95 x1 x2).f2 < ((x0.length : Nat) : Int))) (brA (decide ((0 : Int) ≤ (rd_T95 x1 x2).f1)) (brA (decide ((rd_T95 x1 x2).f1 < (4 : Int))) (LP_61_1 k x0 x1 x2 (if (rd_T95 x1 x2).f1 = (0 : Int) then (rd_T37 x0 ((rd_T95 x1 x2).f2)).f1 else x5) (if (rd_T95 x1 x2).f1 = (1 : Int) then (rd_T37 x0 ((rd_T95 x1 x2).f2)).f1 else x6) (if (rd_T95 x1 x2).f1 = (2 : Int) then (rd_T37 x0 ((rd_T95 x1 x2).f2)).f1 else x7) (if (rd_T95 x1 x2).f1 = (3 : Int) then (rd_T37 x0 ((rd_T95 x1 x2).f2)).f1 else x8) (0 : Int) x3 x4 (if (rd_T95 x1 x2).f1 = (0 : Int) then (rd_T37 x0 ((rd_T95 x1 x2).f2)).f1 else x5) (if (rd_T95 x1 x2).f1 = (1 : Int) then (rd_T37 x0 ((rd_T95 x1 x2).f2)).f1 else x6) (if (rd_T95 x1 x2).f1 = (2 : Int) then (rd_T37 x0 ((rd_T95 x1 x2).f2)).f1 else x7) (if (rd_T95 x1 x2).f1 = (3 : Int) then (rd_T37 x0 ((rd_T95 x1 x2).f2)).f1 else x8) x9 x10 x11 x12 (x13 ++ ([(⟨(rd_T95 x1 x2).f2, (rd_T37 x0 ((rd_T95 x1 x2).f2)).f0⟩ : S39)] : List S39)) x14) (none)) (none)) (none)) (none)) (none)) (none)) (none)) (brA (decide ((0 : Int) ≤ (rd_T95 x1 x2).f2)) (brA (decide ((rd_T95 x1 x2).f2 < ((x0.length : Nat) : Int))) (brA (decide ((0 : Int) ≤ (rd_T95 x1 x2).f1)) (brA (decide ((rd_T95 x1 x2).f1 < (4 : Int))) (LP_61_1 k x0 x1 x2 (if (rd_T95 x1 x2).f1 = (0 : Int) then (rd_T37 x0 ((rd_T95 x1 x2).f2)).f1 else x5) (if (rd_T95 x1 x2).f1 = (1 : Int) then (rd_T37 x0 ((rd_T95 x1 x2).f2)).f1 else x6) (if (rd_T95 x1 x2).f1 = (2 : Int) then (rd_T37 x0 ((rd_T95 x1 x2).f2)).f1 else x7) (if (rd_T95 x1 x2).f1 = (3 : Int) then (rd_T37 x0 ((rd_T95 x1 x2).f2)).f1 else x8) (0 : Int) x3 x4 (if (rd_T95 x1 x2).f1 = (0 : Int) then (rd_T37 x0 ((rd_T95 x1 x2).f2)).f1 else x5) (if (rd_T95 x1 x2).f1 = (1 : Int) then (rd_T37 x0 ((rd_T95 x1 x2).f2)).f1 else x6) (if (rd_T95 x1 x2).f1 = (2 : Int) then (rd_T37 x0 ((rd_T95 x1 x2).f2)).f1 else x7) (if (rd_T95 x1 x2).f1 = (3 : Int) then (rd_T37 x0 ((rd_T95 x1 x2).f2)).f1 else x8) x9 x10 x11 x12 x13 x14) (none)) (none)) (none)) (none)))) (brA (decide ((rd_T95 x1 x2).f0 = (2 : Int))) (callX (fun n => impl_putAt.f n x13 x14 x9 x10 ((rd_T95 x1 x2).f1)) fun t4 => brA (decide (t4 ≥ (0 : Int))) (brA (decide ((0 : Int) ≤ (rd_T95 x1 x2).f2)) (brA (decide ((rd_T95 x1 x2).f2 < (4 : Int))) (brA (decide ((0 : Int) ≤ t4)) (brA (decide (t4 < ((x14.length : Nat) : Int))) (LP_61_1 k x0 x1 x2 x5 x6 x7 x8 (0 : Int) x3 x4 x5 x6 x7 x8 x9 x10 x11 x12 x13 (List.set x14 (Int.toNat t4) (⟨(rd_T82 x14 t4).f0, (rd ([x5, x6, x7, x8] : List Int) ((rd_T95 x1 x2).f2))⟩ : S82))) (none)) (none)) (none)) (none)) (brA (decide ((0 : Int) ≤ (rd_T95 x1 x2).f2)) (brA (decide ((rd_T95 x1 x2).f2 < (4 : Int))) (brA (decide ((x14.length + 1) ≤ 8796093022208)) (LP_61_1 k x0 x1 x2 x5 x6 x7 x8 (0 : Int) x3 x4 x5 x6 x7 x8 x9 x10 x11 x12 x13 (x14 ++ ([(⟨(rd_T95 x1 x2).f1, (rd ([x5, x6, x7, x8] : List Int) ((rd_T95 x1 x2).f2))⟩ : S82)] : List S82))) (none)) (none)) (none))) (brA (decide ((rd_T95 x1 x2).f0 = (3 : Int))) (brA (decide ((0 : Int) ≤ (rd_T95 x1 x2).f1)) (brA (decide ((rd_T95 x1 x2).f1 < (4 : Int))) (LP_61_1 k x0 x1 x2 (if (rd_T95 x1 x2).f1 = (0 : Int) then (rd_T95 x1 x2).f3 else x5) (if (rd_T95 x1 x2).f1 = (1 : Int) then (rd_T95 x1 x2).f3 else x6) (if (rd_T95 x1 x2).f1 = (2 : Int) then (rd_T95 x1 x2).f3 else x7) (if (rd_T95 x1 x2).f1 = (3 : Int) then (rd_T95 x1 x2).f3 else x8) (0 : Int) x3 x4 (if (rd_T95 x1 x2).f1 = (0 : Int) then (rd_T95 x1 x2).f3 else x5) (if (rd_T95 x1 x2).f1 = (1 : Int) then (rd_T95 x1 x2).f3 else x6) (if (rd_T95 x1 x2).f1 = (2 : Int) then (rd_T95 x1 x2).f3 else x7) (if (rd_T95 x1 x2).f1 = (3 : Int) then (rd_T95 x1 x2).f3 else x8) x9 x10 x11 x12 x13 x14) (none)) (none)) (brA (decide ((rd_T95 x1 x2).f0 = (4 : Int))) (brA (decide ((0 : Int) ≤ (rd_T95 x1 x2).f1)) (brA (decide ((rd_T95 x1 x2).f1 < (4 : Int))) (brA (decide ((0 : Int) ≤ (rd_T95 x1 x2).f2)) (brA (decide ((rd_T95 x1 x2).f2 < (4 : Int))) (brA (decide ((0 : Int) ≤ (rd_T95 x1 x2).f1)) (brA (decide ((rd_T95 x1 x2).f1 < (4 : Int))) (LP_61_1 k x0 x1 x2 (if (rd_T95 x1 x2).f1 = (0 : Int) then (wrap64 ((rd ([x5, x6, x7, x8] : List Int) ((rd_T95 x1 x2).f1)) + (rd ([x5, x6, x7, x8] : List Int) ((rd_T95 x1 x2).f2)))) else x5) (if (rd_T95 x1 x2).f1 = (1 : Int) then (wrap64 ((rd ([x5, x6, x7, x8] : List Int) ((rd_T95 x1 x2).f1)) + (rd ([x5, x6, x7, x8] : List Int) ((rd_T95 x1 x2).f2)))) else x6) (if (rd_T95 x1 x2).f1 = (2 : Int) then (wrap64 ((rd ([x5, x6, x7, x8] : List Int) ((rd_T95 x1 x2).f1)) + (rd ([x5, x6, x7, x8] : List Int) ((rd_T95 x1 x2).f2)))) else x7) (if (rd_T95 x1 x2).f1 = (3 : Int) then (wrap64 ((rd ([x5, x6, x7, x8] : List Int) ((rd_T95 x1 x2).f1)) + (rd ([x5, x6, x7, x8] : List Int) ((rd_T95 x1 x2).f2)))) else x8) (0 : Int) x3 x4 (if (rd_T95 x1 x2).f1 = (0 : Int) then (wrap64 ((rd ([x5, x6, x7, x8] : List Int) ((rd_T95 x1 x2).f1)) + (rd ([x5, x6, x7, x8] : List Int) ((rd_T95 x1 x2).f2)))) else x5) (if (rd_T95 x1 x2).f1 = (1 : Int) then (wrap64 ((rd ([x5, x6, x7, x8] : List Int) ((rd_T95 x1 x2).f1)) + (rd ([x5, x6, x7, x8] : List Int) ((rd_T95 x1 x2).f2)))) else x6) (if (rd_T95 x1 x2).f1 = (2 : Int) then (wrap64 ((rd ([x5, x6, x7, x8] : List Int) ((rd_T95 x1 x2).f1)) + (rd ([x5, x6, x7, x8] : List Int) ((rd_T95 x1 x2).f2)))) else x7) (if (rd_T95 x1 x2).f1 = (3 : Int) then (wrap64 ((rd ([x5, x6, x7, x8] : List Int) ((rd_T95 x1 x2).f1)) + (rd ([x5, x6, x7, x8] : List Int) ((rd_T95 x1 x2).f2)))) else x8) x9 x10 x11 x12 x13 x14) (none)) (none)) (none)) (none)) (none)) (none)) (brA (decide ((rd_T95 x1 x2).f0 = (5 : Int))) (brA (decide ((0 : Int) ≤ (rd_T95 x1 x2).f1)) (brA (decide ((rd_T95 x1 x2).f1 < (4 : Int))) (brA (decide ((0 : Int) ≤ (rd_T95 x1 x2).f2)) (brA (decide ((rd_T95 x1 x2).f2 < (4 : Int))) (brA (decide ((0 : Int) ≤ (rd_T95 x1 x2).f1)) (brA (decide ((rd_T95 x1 x2).f1 < (4 : Int))) (LP_61_1 k x0 x1 x2 (if (rd_T95 x1 x2).f1 = (0 : Int) then (wrap64 ((rd ([x5, x6, x7, x8] : List Int) ((rd_T95 x1 x2).f1)) - (rd ([x5, x6, x7, x8] : List Int) ((rd_T95 x1 x2).f2)))) else x5) (if (rd_T95 x1 x2).f1 = (1 : Int) then (wrap64 ((rd ([x5, x6, x7, x8] : List Int) ((rd_T95 x1 x2).f1)) - (rd ([x5, x6, x7, x8] : List Int) ((rd_T95 x1 x2).f2)))) else x6) (if (rd_T95 x1 x2).f1 = (2 : Int) then (wrap64 ((rd ([x5, x6, x7, x8] : List Int) ((rd_T95 x1 x2).f1)) - (rd ([x5, x6, x7, x8] : List Int) ((rd_T95 x1 x2).f2)))) else x7) (if (rd_T95 x1 x2).f1 = (3 : Int) then (wrap64 ((rd ([x5, x6, x7, x8] : List Int) ((rd_T95 x1 x2).f1)) - (rd ([x5, x6, x7, x8] : List Int) ((rd_T95 x1 x2).f2)))) else x8) (0 : Int) x3 x4 (if (rd_T95 x1 x2).f1 = (0 : Int) then (wrap64 ((rd ([x5, x6, x7, x8] : List Int) ((rd_T95 x1 x2).f1)) - (rd ([x5, x6, x7, x8] : List Int) ((rd_T95 x1 x2).f2)))) else x5) (if (rd_T95 x1 x2).f1 = (1 : Int) then (wrap64 ((rd ([x5, x6, x7, x8] : List Int) ((rd_T95 x1 x2).f1)) - (rd ([x5, x6, x7, x8] : List Int) ((rd_T95 x1 x2).f2)))) else x6) (if (rd_T95 x1 x2).f1 = (2 : Int) then (wrap64 ((rd ([x5, x6, x7, x8] : List Int) ((rd_T95 x1 x2).f1)) - (rd ([x5, x6, x7, x8] : List Int) ((rd_T95 x1 x2).f2)))) else x7) (if (rd_T95 x1 x2).f1 = (3 : Int) then (wrap64 ((rd ([x5, x6, x7, x8] : List Int) ((rd_T95 x1 x2).f1)) - (rd ([x5, x6, x7, x8] : List Int) ((rd_T95 x1 x2).f2)))) else x8) x9 x10 x11 x12 x13 x14) (none)) (none)) (none)) (none)) (none)) (none)) (brA (decide ((rd_T95 x1 x2).f0 = (6 : Int))) (brA (decide ((0 : Int) ≤ (rd_T95 x1 x2).f1)) (brA (decide ((rd_T95 x1 x2).f1 < (4 : Int))) (brA (decide ((0 : Int) ≤ (rd_T95 x1 x2).f2)) (brA (decide ((rd_T95 x1 x2).f2 < (4 : Int))) (brA (decide ((rd ([x5, x6, x7, x8] : List Int) ((rd_T95 x1 x2).f1)) < (rd ([x5, x6, x7, x8] : List Int) ((rd_T95 x1 x2).f2)))) (LP_61_1 k x0 x1 (wrap64 (x2 + (rd_T95 x1 x2).f3)) x5 x6 x7 x8 (0 : Int) x3 x4 x5 x6 x7 x8 x9 x10 x11 x12 x13 x14) (LP_61_1 k x0 x1 x2 x5 x6 x7 x8 (0 : Int) x3 x4 x5 x6 x7 x8 x9 x10 x11 x12 x13 x14)) (none)) (none)) (none)) (none)) (brA (decide ((rd_T95 x1 x2).f0 = (7 : Int))) (callX (fun n => impl_copied_impl_Read.f x13) fun t5 => k (.agg [.own 0 0, .own 1 0, .int .i64 (0 : Int), .int .i64 (1 : Int)]) ⟨[], [some ⟨39, t5, 0⟩, some ⟨82, ([] : List S82), 0⟩]⟩) (LP_61_1 k x0 x1 x2 x5 x6 x7 x8 (0 : Int) x3 x4 x5 x6 x7 x8 x9 x10 x11 x12 x13 x14)))))))) (none)) (none)) (callX (fun n => impl_copied_impl_Read.f x13) fun t6 => callX (fun n => impl_copied_impl_Put.f x14) fun t7 => k (.agg [.own 0 0, .own 1 0, .int .i64 (rd ([x5, x6, x7, x8] : List Int) (0 : Int)), .int .i64 (0 : Int)]) ⟨[], [some ⟨39, t6, 0⟩, some ⟨82, t7, 0⟩]⟩) : Option Unit) := by
 simp only [← wrapA_i64]
 kernel_rfl
theorem w_61_1 (k : AV tau → Mem tau → Option Unit) (x0 : (List S37)) (x1 : (List S95)) (x2 : Int) (x3 : Int) (x4 : Int) (x5 : Int) (x6 : Int) (x7 : Int) (x8 : Int) (x9 : Int) (x10 : Int) (x11 : Int) (x12 : Int) (x13 : Int) (x14 : Int) (x15 : Int) (x16 : (List S39)) (x17 : (List S82)) (x18 : (List S39)) (x19 : (List S82)) : codeA E_61 C_61 D_61 (codeP B_61 [1, 1, 1, 1, 0, 1, 0, 0, 1, 0, 0, 1, 1, 1, 0, 0]) (kL E_61 C_61 D_61 (codeP B_61 [1, 1, 1, 1, 0, 1, 0, 0, 1, 0, 0, 1, 1, 1, 0, 0]) (K_61_1 k)) (st_61_1 x0 x1 x2 x3 x4 x5 x6 x7 x8 x9 x10 x11 x12 x13 x14 x15 x16 x17 x18 x19) = (brA (decide (x7 < (4 : Int))) (brA (decide ((0 : Int) ≤ x7)) (brA (decide (x7 < (4 : Int))) (callX (fun n => impl_in.f (rd ([x3, x4, x5, x6] : List Int) x7) (-(1000000 : Int)) (1000000 : Int)) fun t8 => brA (!t8) (callX (fun n => impl_copied_impl_Read.f x18) fun t9 => k (.agg [.own 0 0, .own 1 0, .int .i64 (0 : Int), .int .i64 (2 : Int)]) ⟨[], [some ⟨39, t9, 0⟩, some ⟨82, ([] : List S82), 0⟩]⟩) (LP_61_1 k x0 x1 x2 x3 x4 x5 x6 (wrap64 (x7 + (1 : Int))) x8 x9 x10 x11 x12 x13 x14 x15 x16 x17 x18 x19)) (none)) (none)) (LP_61_0 k x0 x1 (wrap64 (x2 + (1 : Int))) x8 x9 x10 x11 x12 x13 x14 x15 x16 x17 x18 x19) : Option Unit) := by
 simp only [← wrapA_i64]
 kernel_rfl
theorem w_61 (l0 : List S37) (l1 : List S95) (k : AV tau → Mem tau → Option Unit) : fnA E_61 C_61 D_61 Try.f61 B_61 [.sl 37 l0, .sl 95 l1] ⟨[], []⟩ k = (callX (fun n => impl_BoxOk.f n l0) fun t0 => brA (!t0) (k (.agg [.own 0 0, .own 1 0, .int .i64 (0 : Int), .int .i64 (3 : Int)]) ⟨[], [some ⟨39, ([] : List S39), 0⟩, some ⟨82, ([] : List S82), 0⟩]⟩) (callX (fun n => impl_ProgOk.f n l1) fun t1 => brA (!t1) (k (.agg [.own 0 0, .own 1 0, .int .i64 (0 : Int), .int .i64 (3 : Int)]) ⟨[], [some ⟨39, ([] : List S39), 0⟩, some ⟨82, ([] : List S82), 0⟩]⟩) (LP_61_0 k l0 l1 (0 : Int) (0 : Int) (0 : Int) (0 : Int) (0 : Int) (0 : Int) (0 : Int) (0 : Int) (0 : Int) ([] : List S39) ([] : List S82) ([] : List S39) ([] : List S82))) : Option Unit) := by kernel_rfl
def S_61_0 (N : Nat) : Prop := ∀ (k : AV tau → Mem tau → Option Unit) (x0 : (List S37)) (x1 : (List S95)) (x2 : Int) (x3 : Int) (x4 : Int) (x5 : Int) (x6 : Int) (x7 : Int) (x8 : Int) (x9 : Int) (x10 : Int) (x11 : (List S39)) (x12 : (List S82)) (x13 : (List S39)) (x14 : (List S82)) (r : (List (S39)) × (List (S82)) × Int × Int), impl_ExecRun.l0 N (x0) (x1) (x2) (x5) (x6) (x7) (x8) (x13) (x14) (x9) (x10) = some r → k (.agg [.own 0 0, .own 1 0, .int .i64 (r.2.2.1), .int .i64 (r.2.2.2)]) ⟨[], [some ⟨39, r.1, 0⟩, some ⟨82, r.2.1, 0⟩]⟩ = some () → LP_61_0 k x0 x1 x2 x3 x4 x5 x6 x7 x8 x9 x10 x11 x12 x13 x14 = some ()
def S_61_1 (N : Nat) : Prop := ∀ (k : AV tau → Mem tau → Option Unit) (x0 : (List S37)) (x1 : (List S95)) (x2 : Int) (x3 : Int) (x4 : Int) (x5 : Int) (x6 : Int) (x7 : Int) (x8 : Int) (x9 : Int) (x10 : Int) (x11 : Int) (x12 : Int) (x13 : Int) (x14 : Int) (x15 : Int) (x16 : (List S39)) (x17 : (List S82)) (x18 : (List S39)) (x19 : (List S82)) (r : (List (S39)) × (List (S82)) × Int × Int), impl_ExecRun.l1 N (x0) (x1) (x2) (x7) (x10) (x11) (x12) (x13) (x18) (x19) (x14) (x15) (x3) (x4) (x5) (x6) = some r → k (.agg [.own 0 0, .own 1 0, .int .i64 (r.2.2.1), .int .i64 (r.2.2.2)]) ⟨[], [some ⟨39, r.1, 0⟩, some ⟨82, r.2.1, 0⟩]⟩ = some () → LP_61_1 k x0 x1 x2 x3 x4 x5 x6 x7 x8 x9 x10 x11 x12 x13 x14 x15 x16 x17 x18 x19 = some ()
theorem L_61 (N : Nat) : S_61_0 N ∧ S_61_1 N := by
 induction N using Nat.strongRecOn with | _ N0 ih =>
 refine ⟨?_, ?_⟩
 ·intro k x0 x1 x2 x3 x4 x5 x6 x7 x8 x9 x10 x11 x12 x13 x14 r h hk
  rcases N0 with _ | N
  · cases h
  first | rw [impl_ExecRun.l0] at h | simp only [impl_ExecRun.l0] at h | (unfold impl_ExecRun.l0 at h; dsimp only at h)
  refine loop_fold mC_61 mD_61 ?_
  refine (w_61_0 k x0 x1 x2 x3 x4 x5 x6 x7 x8 x9 x10 x11 x12 x13 x14).trans ?_
  refine br_eti h rfl (fun c135 h => ?_) (fun c135 h => ?_)
  ·refine call_h 0 h (fun t6 e136 h => ?_)
   refine call_h 0 h (fun t7 e137 h => ?_)
   cases h; exact hk
  refine br_g h rfl (fun c138 h => ?_)
  refine br_t (by first | (simp [c135]; done) | (simp; omega) | (simp only [List.length_append, List.length_cons, List.length_nil, List.length_take, List.length_drop] at c135 ⊢; simp; omega) | (simp only [List.length_append, List.length_cons, List.length_nil, List.length_take, List.length_drop] at c135; simp; omega) | (simp_all; done)) ?_
  refine br_ite h rfl (fun c139 h => ?_) (fun c139 h => ?_)
  ·refine call_h N h (fun t2 e140 h => ?_)
   refine br_ite h rfl (fun c141 h => ?_) (fun c141 h => ?_)
   ·refine br_g h rfl (fun c142 h => ?_)
    refine br_g h rfl (fun c143 h => ?_)
    refine br_g h rfl (fun c144 h => ?_)
    refine br_g h rfl (fun c145 h => ?_)
    rcases N with _ | N
    · cases h
    first | rw [impl_ExecRun.j2] at h | simp only [impl_ExecRun.j2] at h | (unfold impl_ExecRun.j2 at h; dsimp only at h)
    exact (ih N (by omega)).2 _ _ _ _ _ _ _ _ _ _ _ _ _ _ _ _ _ _ _ _ _ _ h hk
   refine call_h N h (fun t3 e146 h => ?_)
   refine br_eti h rfl (fun c147 h => ?_) (fun c147 h => ?_)
   ·refine br_g h rfl (fun c148 h => ?_)
    refine br_g h rfl (fun c149 h => ?_)
    refine br_g h rfl (fun c150 h => ?_)
    refine br_g h rfl (fun c151 h => ?_)
    rcases N with _ | N
    · cases h
    first | rw [impl_ExecRun.j2] at h | simp only [impl_ExecRun.j2] at h | (unfold impl_ExecRun.j2 at h; dsimp only at h)
    exact (ih N (by omega)).2 _ _ _ _ _ _ _ _ _ _ _ _ _ _ _ _ _ _ _ _ _ _ h hk
   refine br_g h rfl (fun c152 h => ?_)
   refine br_g h rfl (fun c153 h => ?_)
   refine br_g h (by first | rfl | exact dect | exact (congrArg not dect) | (simp; done) | (simp [beqI]; done) | (simp; omega)) (fun c154 h => ?_)
   refine br_t (by first | (simp [c152]; done) | (simp; omega) | (simp only [List.length_append, List.length_cons, List.length_nil, List.length_take, List.length_drop] at c154 c153 c135 ⊢; simp; omega) | (simp only [List.length_append, List.length_cons, List.length_nil, List.length_take, List.length_drop] at c154 c153 c135; simp; omega) | (simp_all; done)) ?_
   refine br_t (by first | (simp [c153]; done) | (simp; omega) | (simp only [List.length_append, List.length_cons, List.length_nil, List.length_take, List.length_drop] at c154 c153 c135 ⊢; simp; omega) | (simp only [List.length_append, List.length_cons, List.length_nil, List.length_take, List.length_drop] at c154 c153 c135; simp; omega) | (simp_all; done)) ?_
   refine br_g h rfl (fun c155 h => ?_)
   refine br_g h rfl (fun c156 h => ?_)
   rcases N with _ | N
   · cases h
   first | rw [impl_ExecRun.j2] at h | simp only [impl_ExecRun.j2] at h | (unfold impl_ExecRun.j2 at h; dsimp only at h)
   exact (ih N (by omega)).2 _ _ _ _ _ _ _ _ _ _ _ _ _ _ _ _ _ _ _ _ _ _ h hk
  refine br_ite h rfl (fun c157 h => ?_) (fun c157 h => ?_)
  ·refine call_h N h (fun t4 e158 h => ?_)
   refine br_eti h rfl (fun c159 h => ?_) (fun c159 h => ?_)
   ·refine br_g h rfl (fun c160 h => ?_)
    refine br_g h rfl (fun c161 h => ?_)
    refine br_g h (by first | rfl | exact dect | exact (congrArg not dect) | (simp; done) | (simp [beqI]; done) | (simp; omega)) (fun c162 h => ?_)
    rcases N with _ | N
    · cases h
    first | rw [impl_ExecRun.j2] at h | simp only [impl_ExecRun.j2] at h | (unfold impl_ExecRun.j2 at h; dsimp only at h)
    exact (ih N (by omega)).2 _ _ _ _ _ _ _ _ _ _ _ _ _ _ _ _ _ _ _ _ _ _ h hk
   refine br_g h rfl (fun c163 h => ?_)
   refine br_g h rfl (fun c164 h => ?_)
   refine br_g h rfl (fun c165 h => ?_)
   refine br_g h rfl (fun c166 h => ?_)
   rcases N with _ | N
   · cases h
   first | rw [impl_ExecRun.j2] at h | simp only [impl_ExecRun.j2] at h | (unfold impl_ExecRun.j2 at h; dsimp only at h)
   exact (ih N (by omega)).2 _ _ _ _ _ _ _ _ _ _ _ _ _ _ _ _ _ _ _ _ _ _ h hk
  refine br_ite h rfl (fun c167 h => ?_) (fun c167 h => ?_)
  ·refine br_g h rfl (fun c168 h => ?_)
   refine br_g h rfl (fun c169 h => ?_)
   rcases N with _ | N
   · cases h
   first | rw [impl_ExecRun.j2] at h | simp only [impl_ExecRun.j2] at h | (unfold impl_ExecRun.j2 at h; dsimp only at h)
   exact (ih N (by omega)).2 _ _ _ _ _ _ _ _ _ _ _ _ _ _ _ _ _ _ _ _ _ _ h hk
  refine br_ite h rfl (fun c170 h => ?_) (fun c170 h => ?_)
  ·refine br_g h rfl (fun c171 h => ?_)
   refine br_g h rfl (fun c172 h => ?_)
   refine br_g h rfl (fun c173 h => ?_)
   refine br_g h rfl (fun c174 h => ?_)
   rcases N with _ | N
   · cases h
   first | rw [impl_ExecRun.j2] at h | simp only [impl_ExecRun.j2] at h | (unfold impl_ExecRun.j2 at h; dsimp only at h)
   refine br_t (by first | (simp [c171]; done) | (simp; omega) | (simp only [List.length_append, List.length_cons, List.length_nil, List.length_take, List.length_drop] at c135 ⊢; simp; omega) | (simp only [List.length_append, List.length_cons, List.length_nil, List.length_take, List.length_drop] at c135; simp; omega) | (simp_all; done)) ?_
   refine br_t (by first | (simp [c172]; done) | (simp; omega) | (simp only [List.length_append, List.length_cons, List.length_nil, List.length_take, List.length_drop] at c135 ⊢; simp; omega) | (simp only [List.length_append, List.length_cons, List.length_nil, List.length_take, List.length_drop] at c135; simp; omega) | (simp_all; done)) ?_
   exact (ih N (by omega)).2 _ _ _ _ _ _ _ _ _ _ _ _ _ _ _ _ _ _ _ _ _ _ h hk
  refine br_eti h rfl (fun c175 h => ?_) (fun c175 h => ?_)
  ·refine br_eti h rfl (fun c176 h => ?_) (fun c176 h => ?_)
   ·refine br_eti h rfl (fun c177 h => ?_) (fun c177 h => ?_)
    ·rcases N with _ | N
     · cases h
     first | rw [impl_ExecRun.j2] at h | simp only [impl_ExecRun.j2] at h | (unfold impl_ExecRun.j2 at h; dsimp only at h)
     exact (ih N (by omega)).2 _ _ _ _ _ _ _ _ _ _ _ _ _ _ _ _ _ _ _ _ _ _ h hk
    refine call_h 0 h (fun t5 e178 h => ?_)
    cases h; exact hk
   refine br_g h rfl (fun c179 h => ?_)
   refine br_g h rfl (fun c180 h => ?_)
   refine br_g h rfl (fun c181 h => ?_)
   refine br_g h rfl (fun c182 h => ?_)
   refine br_eti h rfl (fun c183 h => ?_) (fun c183 h => ?_)
   ·rcases N with _ | N
    · cases h
    first | rw [impl_ExecRun.j2] at h | simp only [impl_ExecRun.j2] at h | (unfold impl_ExecRun.j2 at h; dsimp only at h)
    exact (ih N (by omega)).2 _ _ _ _ _ _ _ _ _ _ _ _ _ _ _ _ _ _ _ _ _ _ h hk
   rcases N with _ | N
   · cases h
   first | rw [impl_ExecRun.j2] at h | simp only [impl_ExecRun.j2] at h | (unfold impl_ExecRun.j2 at h; dsimp only at h)
   exact (ih N (by omega)).2 _ _ _ _ _ _ _ _ _ _ _ _ _ _ _ _ _ _ _ _ _ _ h hk
  refine br_g h rfl (fun c184 h => ?_)
  refine br_g h rfl (fun c185 h => ?_)
  refine br_g h rfl (fun c186 h => ?_)
  refine br_g h rfl (fun c187 h => ?_)
  rcases N with _ | N
  · cases h
  first | rw [impl_ExecRun.j2] at h | simp only [impl_ExecRun.j2] at h | (unfold impl_ExecRun.j2 at h; dsimp only at h)
  refine br_t (by first | (simp [c184]; done) | (simp; omega) | (simp only [List.length_append, List.length_cons, List.length_nil, List.length_take, List.length_drop] at c135 ⊢; simp; omega) | (simp only [List.length_append, List.length_cons, List.length_nil, List.length_take, List.length_drop] at c135; simp; omega) | (simp_all; done)) ?_
  refine br_t (by first | (simp [c185]; done) | (simp; omega) | (simp only [List.length_append, List.length_cons, List.length_nil, List.length_take, List.length_drop] at c135 ⊢; simp; omega) | (simp only [List.length_append, List.length_cons, List.length_nil, List.length_take, List.length_drop] at c135; simp; omega) | (simp_all; done)) ?_
  exact (ih N (by omega)).2 _ _ _ _ _ _ _ _ _ _ _ _ _ _ _ _ _ _ _ _ _ _ h hk
 ·intro k x0 x1 x2 x3 x4 x5 x6 x7 x8 x9 x10 x11 x12 x13 x14 x15 x16 x17 x18 x19 r h hk
  rcases N0 with _ | N
  · cases h
  first | rw [impl_ExecRun.l1] at h | simp only [impl_ExecRun.l1] at h | (unfold impl_ExecRun.l1 at h; dsimp only at h)
  refine loop_fold mC_61 mD_61 ?_
  refine (w_61_1 k x0 x1 x2 x3 x4 x5 x6 x7 x8 x9 x10 x11 x12 x13 x14 x15 x16 x17 x18 x19).trans ?_
  refine br_eti h rfl (fun c188 h => ?_) (fun c188 h => ?_)
  ·exact (ih N (by omega)).1 _ _ _ _ _ _ _ _ _ _ _ _ _ _ _ _ _ h hk
  refine br_g h rfl (fun c189 h => ?_)
  refine br_t (by first | (simp [c188]; done) | (simp; omega) | (simp_all; done)) ?_
  refine call_h 0 h (fun t8 e190 h => ?_)
  refine br_itn h (congrArg not dect) (fun c191 h => ?_) (fun c191 h => ?_)
  ·exact (ih N (by omega)).2 _ _ _ _ _ _ _ _ _ _ _ _ _ _ _ _ _ _ _ _ _ _ h hk
  refine call_h 0 h (fun t9 e192 h => ?_)
  cases h; exact hk
theorem okc_61 (args : List (AV tau)) (m : Mem tau) (κ : AV tau → Mem tau → Option Unit) (hh : c_61 args m κ = some ()) : ∃ av m1, κ av m1 = some () ∧ ToldA Try.prog TT (pnT 61) 61 args m av m1 := by
 obtain ⟨bx_, rw_⟩ := m
 unfold c_61 at hh
 simp only at hh
 split at hh
 case h_2 => cases hh
 rename_i b0 b1
 obtain ⟨l0, hx0, hh0⟩ := bO_some hh
 obtain ⟨l1, hx1, hh1⟩ := bO_some hh0
 have ex0 := asSl_some hx0
 have ex1 := asSl_some hx1
 subst ex0 ex1
 obtain ⟨N, t, h, hκ⟩ := callX_some hh1
 refine ⟨_, _, hκ, told_of_run pq okC_61 (fun _ _ _ => drawA_ok pq okC_61 hmix) (E := E_61) (fn := Try.f61) (body := B_61) (by kernel_rfl) (by kernel_rfl) (by kernel_rfl) (by rfl) (by exact Nat.le_of_ble_eq_true rfl) (fun k hk => ?_)⟩
 refine (w_61 l0 l1 k).trans ?_
 replace h : impl_ExecRun.f N l0 l1 = some t := h
 unfold impl_ExecRun.f at h
 refine call_h N h (fun t0 e193 h => ?_)
 refine br_etn h (congrArg not dect) (fun c194 h => ?_) (fun c194 h => ?_)
 ·rcases N with _ | N
  · cases h
  first | rw [impl_ExecRun.j0] at h | simp only [impl_ExecRun.j0] at h | (unfold impl_ExecRun.j0 at h; dsimp only at h)
  replace h := ite_t h (by first | assumption | omega | simp_all)
  cases h; exact hk
 refine call_h N h (fun t1 e195 h => ?_)
 rcases N with _ | N
 · cases h
 first | rw [impl_ExecRun.j0] at h | simp only [impl_ExecRun.j0] at h | (unfold impl_ExecRun.j0 at h; dsimp only at h)
 refine br_eti h dect (fun c196 h => ?_) (fun c196 h => ?_)
 ·exact (L_61 N).1 _ _ _ _ _ _ _ _ _ _ _ _ _ _ _ _ _ h hk
 cases h; exact hk
noncomputable def C_83 : Ctr tau Unit := ctrS 61 c_61 C_61
noncomputable def D_83 : Drw tau := drawA E_83 C_83
theorem okC_83 : CtrOk Try.prog TT pnT C_83 := ctrS_ok okC_61 okc_61
theorem mC_83 : CtrMono C_83 := ctrS_mono mC_61 mc_61
theorem mD_83 : DrMono D_83 := drawA_mono mC_83
noncomputable def B_83 : Code := Try.f83.body.getD .skip
theorem mc_83 (args : List (AV tau)) (m : Mem tau) (k k' : AV tau → Mem tau → Option Unit) (hk : ∀ av m, k av m = some () → k' av m = some ()) (h : c_83 args m k = some ()) : c_83 args m k' = some () := by
 unfold c_83 at h ⊢
 split at h
 · repeat' first | exact callX_mono (fun _ h => hk _ _ h) h | refine bO_mono (fun _ h => ?_) h
 · cases h
noncomputable def K_83_0 (k : AV tau → Mem tau → Option Unit) : Kon tau := (kBlock 0 (kS E_83 C_83 D_83 (codeP B_83 [1, 1, 1, 1]) (kEnd E_83 Try.f83 k)))
noncomputable def K_83_1 (k : AV tau → Mem tau → Option Unit) : Kon tau := (kBlock 2 (kS E_83 C_83 D_83 (codeP B_83 [1, 1, 1, 1, 1]) (kEnd E_83 Try.f83 k)))
def st_83_0 (x0 : (List S39)) (x1 : Int) (x2 : Int) (x3 : (List S39)) (x4 : (List S82)) (x5 : Int) (x6 : Int) (x7 : Bool) (x8 : Bool) (x9 : Bool) (x10 : Bool) (x11 : Bool) (x12 : Bool) (x13 : Bool) (x14 : Bool) : St tau := ⟨tmL 100 0 [(1, .ptr 0 0), (3, .ptr 1 0), (4, .ptr 2 0), (47, .sl 39 x0), (48, .int .i64 x1), (49, .int .i64 x2)], ⟨[some (26, [.sl 39 x3, .sl 82 x4, .int .i64 x5, .int .i64 x6]), some (173, [.bool x7, .bool x8, .bool x9, .bool x10]), some (173, [.bool x11, .bool x12, .bool x13, .bool x14])], []⟩⟩
noncomputable def LP_83_0 (k : AV tau → Mem tau → Option Unit) (x0 : (List S39)) (x1 : Int) (x2 : Int) (x3 : (List S39)) (x4 : (List S82)) (x5 : Int) (x6 : Int) (x7 : Bool) (x8 : Bool) (x9 : Bool) (x10 : Bool) (x11 : Bool) (x12 : Bool) (x13 : Bool) (x14 : Bool) : Option Unit := loopA E_83 (codeA E_83 C_83 D_83 (codeP B_83 [1, 1, 1, 0, 1, 0, 0])) (codeP B_83 [1, 1, 1, 0, 1, 0, 0]) (K_83_0 k) (st_83_0 x0 x1 x2 x3 x4 x5 x6 x7 x8 x9 x10 x11 x12 x13 x14)
def st_83_1 (x0 : (List S82)) (x1 : Int) (x2 : Int) (x3 : Bool) (x4 : Bool) (x5 : Bool) (x6 : Bool) : St tau := ⟨tmL 100 0 [(4, .ptr 0 0), (74, .sl 82 x0), (75, .int .i64 x1), (76, .int .i64 x2)], ⟨[some (173, [.bool x3, .bool x4, .bool x5, .bool x6])], []⟩⟩
noncomputable def LP_83_1 (k : AV tau → Mem tau → Option Unit) (x0 : (List S82)) (x1 : Int) (x2 : Int) (x3 : Bool) (x4 : Bool) (x5 : Bool) (x6 : Bool) : Option Unit := loopA E_83 (codeA E_83 C_83 D_83 (codeP B_83 [1, 1, 1, 1, 0, 1, 0, 0])) (codeP B_83 [1, 1, 1, 1, 0, 1, 0, 0]) (K_83_1 k) (st_83_1 x0 x1 x2 x3 x4 x5 x6)
theorem w_83_0 (k : AV tau → Mem tau → Option Unit) (x0 : (List S39)) (x1 : Int) (x2 : Int) (x3 : (List S39)) (x4 : (List S82)) (x5 : Int) (x6 : Int) (x7 : Bool) (x8 : Bool) (x9 : Bool) (x10 : Bool) (x11 : Bool) (x12 : Bool) (x13 : Bool) (x14 : Bool) : codeA E_83 C_83 D_83 (codeP B_83 [1, 1, 1, 0, 1, 0, 0]) (kL E_83 C_83 D_83 (codeP B_83 [1, 1, 1, 0, 1, 0, 0]) (K_83_0 k)) (st_83_0 x0 x1 x2 x3 x4 x5 x6 x7 x8 x9 x10 x11 x12 x13 x14) = (brA (decide (x2 < x1)) (brA (decide ((0 : Int) ≤ x2)) (brA (decide (x2 < ((x0.length : Nat) : Int))) (callX (fun n => impl_in.f ((rd_T39 x0 x2).f0) (0 : Int) (3 : Int)) fun t2 => brA (!t2) (k (.bool false) ⟨[], []⟩) (brA (decide ((0 : Int) ≤ (rd_T39 x0 x2).f0)) (brA (decide ((rd_T39 x0 x2).f0 < (4 : Int))) (brA (rdOf false ([x7, x8, x9, x10] : List Bool) ((rd_T39 x0 x2).f0)) (k (.bool false) ⟨[], []⟩) (callX (fun n => impl_in.f ((rd_T39 x0 x2).f1) (0 : Int) (1000000 : Int)) fun t3 => brA (!t3) (k (.bool false) ⟨[], []⟩) (brA (decide ((0 : Int) ≤ (rd_T39 x0 x2).f0)) (brA (decide ((rd_T39 x0 x2).f0 < (4 : Int))) (LP_83_0 k x0 x1 (wrap64 (x2 + (1 : Int))) x3 x4 x5 x6 (if (rd_T39 x0 x2).f0 = (0 : Int) then true else x7) (if (rd_T39 x0 x2).f0 = (1 : Int) then true else x8) (if (rd_T39 x0 x2).f0 = (2 : Int) then true else x9) (if (rd_T39 x0 x2).f0 = (3 : Int) then true else x10) x11 x12 x13 x14) (none)) (none)))) (none)) (none))) (none)) (none)) (LP_83_1 k x4 ((x4.length : Nat) : Int) (0 : Int) x11 x12 x13 x14) : Option Unit) := by
 simp only [← wrapA_i64]
 kernel_rfl
theorem w_83_1 (k : AV tau → Mem tau → Option Unit) (x0 : (List S82)) (x1 : Int) (x2 : Int) (x3 : Bool) (x4 : Bool) (x5 : Bool) (x6 : Bool) : codeA E_83 C_83 D_83 (codeP B_83 [1, 1, 1, 1, 0, 1, 0, 0]) (kL E_83 C_83 D_83 (codeP B_83 [1, 1, 1, 1, 0, 1, 0, 0]) (K_83_1 k)) (st_83_1 x0 x1 x2 x3 x4 x5 x6) = (brA (decide (x2 < x1)) (brA (decide ((0 : Int) ≤ x2)) (brA (decide (x2 < ((x0.length : Nat) : Int))) (callX (fun n => impl_in.f ((rd_T82 x0 x2).f0) (0 : Int) (3 : Int)) fun t4 => brA (!t4) (k (.bool false) ⟨[], []⟩) (brA (decide ((0 : Int) ≤ (rd_T82 x0 x2).f0)) (brA (decide ((rd_T82 x0 x2).f0 < (4 : Int))) (brA (rdOf false ([x3, x4, x5, x6] : List Bool) ((rd_T82 x0 x2).f0)) (k (.bool false) ⟨[], []⟩) (callX (fun n => impl_in.f ((rd_T82 x0 x2).f1) (-(1000000 : Int)) (1000000 : Int)) fun t5 => brA (!t5) (k (.bool false) ⟨[], []⟩) (brA (decide ((0 : Int) ≤ (rd_T82 x0 x2).f0)) (brA (decide ((rd_T82 x0 x2).f0 < (4 : Int))) (LP_83_1 k x0 x1 (wrap64 (x2 + (1 : Int))) (if (rd_T82 x0 x2).f0 = (0 : Int) then true else x3) (if (rd_T82 x0 x2).f0 = (1 : Int) then true else x4) (if (rd_T82 x0 x2).f0 = (2 : Int) then true else x5) (if (rd_T82 x0 x2).f0 = (3 : Int) then true else x6)) (none)) (none)))) (none)) (none))) (none)) (none)) (k (.bool true) ⟨[], []⟩) : Option Unit) := by
 simp only [← wrapA_i64]
 kernel_rfl
theorem w_83 (l0_0 : List S39) (l0_1 : List S82) (a0_2 : Int) (a0_3 : Int) (k : AV tau → Mem tau → Option Unit) : fnA E_83 C_83 D_83 Try.f83 B_83 [.agg [.sl 39 l0_0, .sl 82 l0_1, .int .i64 a0_2, .int .i64 a0_3]] ⟨[], []⟩ k = (callX (fun n => impl_in.f a0_3 (0 : Int) (3 : Int)) fun t0 => brA (!t0) (k (.bool false) ⟨[], []⟩) (callX (fun n => impl_in.f a0_2 (-(1000000 : Int)) (1000000 : Int)) fun t1 => brA (!t1) (k (.bool false) ⟨[], []⟩) (brA (!(decide (a0_3 = (0 : Int)))) (brA (!(decide (a0_2 = (0 : Int)))) (k (.bool false) ⟨[], []⟩) (brA (decide (((l0_1.length : Nat) : Int) > (0 : Int))) (k (.bool false) ⟨[], []⟩) (brA (decide (a0_3 = (3 : Int))) (brA (decide (((l0_0.length : Nat) : Int) > (0 : Int))) (k (.bool false) ⟨[], []⟩) (LP_83_0 k l0_0 ((l0_0.length : Nat) : Int) (0 : Int) l0_0 l0_1 a0_2 a0_3 false false false false false false false false)) (LP_83_0 k l0_0 ((l0_0.length : Nat) : Int) (0 : Int) l0_0 l0_1 a0_2 a0_3 false false false false false false false false)))) (brA (decide (a0_3 = (3 : Int))) (brA (decide (((l0_0.length : Nat) : Int) > (0 : Int))) (k (.bool false) ⟨[], []⟩) (LP_83_0 k l0_0 ((l0_0.length : Nat) : Int) (0 : Int) l0_0 l0_1 a0_2 a0_3 false false false false false false false false)) (LP_83_0 k l0_0 ((l0_0.length : Nat) : Int) (0 : Int) l0_0 l0_1 a0_2 a0_3 false false false false false false false false)))) : Option Unit) := by kernel_rfl
def S_83_0 (N : Nat) : Prop := ∀ (k : AV tau → Mem tau → Option Unit) (x0 : (List S39)) (x1 : Int) (x2 : Int) (x3 : (List S39)) (x4 : (List S82)) (x5 : Int) (x6 : Int) (x7 : Bool) (x8 : Bool) (x9 : Bool) (x10 : Bool) (x11 : Bool) (x12 : Bool) (x13 : Bool) (x14 : Bool) (r : Bool), impl_ExecOk.l0 N (x0) (x1) (x2) (x3) (x4) (x5) (x6) (x7) (x8) (x9) (x10) (x11) (x12) (x13) (x14) = some r → k (.bool (r)) ⟨[], []⟩ = some () → LP_83_0 k x0 x1 x2 x3 x4 x5 x6 x7 x8 x9 x10 x11 x12 x13 x14 = some ()
def S_83_1 (N : Nat) : Prop := ∀ (k : AV tau → Mem tau → Option Unit) (x0 : (List S82)) (x1 : Int) (x2 : Int) (x3 : Bool) (x4 : Bool) (x5 : Bool) (x6 : Bool) (r : Bool), impl_ExecOk.l1 N (x0) (x1) (x2) (x3) (x4) (x5) (x6) = some r → k (.bool (r)) ⟨[], []⟩ = some () → LP_83_1 k x0 x1 x2 x3 x4 x5 x6 = some ()
theorem L_83 (N : Nat) : S_83_0 N ∧ S_83_1 N := by
 induction N using Nat.strongRecOn with | _ N0 ih =>
 refine ⟨?_, ?_⟩
 ·intro k x0 x1 x2 x3 x4 x5 x6 x7 x8 x9 x10 x11 x12 x13 x14 r h hk
  rcases N0 with _ | N
  · cases h
  first | rw [impl_ExecOk.l0] at h | simp only [impl_ExecOk.l0] at h | (unfold impl_ExecOk.l0 at h; dsimp only at h)
  refine loop_fold mC_83 mD_83 ?_
  refine (w_83_0 k x0 x1 x2 x3 x4 x5 x6 x7 x8 x9 x10 x11 x12 x13 x14).trans ?_
  refine br_eti h rfl (fun c63 h => ?_) (fun c63 h => ?_)
  ·exact (ih N (by omega)).2 _ _ _ _ _ _ _ _ _ h hk
  refine br_g h rfl (fun c64 h => ?_)
  refine br_g h rfl (fun c65 h => ?_)
  refine call_h 0 h (fun t2 e66 h => ?_)
  refine br_etn h (congrArg not dect) (fun c67 h => ?_) (fun c67 h => ?_)
  ·cases h; exact hk
  refine br_g h rfl (fun c68 h => ?_)
  refine br_g h rfl (fun c69 h => ?_)
  refine br_ite h dect (fun c70 h => ?_) (fun c70 h => ?_)
  ·cases h; exact hk
  refine call_h 0 h (fun t3 e71 h => ?_)
  refine br_etn h (congrArg not dect) (fun c72 h => ?_) (fun c72 h => ?_)
  ·cases h; exact hk
  refine br_t (by first | (simp [c68]; done) | (simp; omega) | (simp only [List.length_append, List.length_cons, List.length_nil, List.length_take, List.length_drop] at c65 ⊢; simp; omega) | (simp only [List.length_append, List.length_cons, List.length_nil, List.length_take, List.length_drop] at c65; simp; omega) | (simp_all; done)) ?_
  refine br_t (by first | (simp [c69]; done) | (simp; omega) | (simp only [List.length_append, List.length_cons, List.length_nil, List.length_take, List.length_drop] at c65 ⊢; simp; omega) | (simp only [List.length_append, List.length_cons, List.length_nil, List.length_take, List.length_drop] at c65; simp; omega) | (simp_all; done)) ?_
  exact (ih N (by omega)).1 _ _ _ _ _ _ _ _ _ _ _ _ _ _ _ _ _ h hk
 ·intro k x0 x1 x2 x3 x4 x5 x6 r h hk
  rcases N0 with _ | N
  · cases h
  first | rw [impl_ExecOk.l1] at h | simp only [impl_ExecOk.l1] at h | (unfold impl_ExecOk.l1 at h; dsimp only at h)
  refine loop_fold mC_83 mD_83 ?_
  refine (w_83_1 k x0 x1 x2 x3 x4 x5 x6).trans ?_
  refine br_eti h rfl (fun c73 h => ?_) (fun c73 h => ?_)
  ·cases h; exact hk
  refine br_g h rfl (fun c74 h => ?_)
  refine br_g h rfl (fun c75 h => ?_)
  refine call_h 0 h (fun t4 e76 h => ?_)
  refine br_etn h (congrArg not dect) (fun c77 h => ?_) (fun c77 h => ?_)
  ·cases h; exact hk
  refine br_g h rfl (fun c78 h => ?_)
  refine br_g h rfl (fun c79 h => ?_)
  refine br_ite h dect (fun c80 h => ?_) (fun c80 h => ?_)
  ·cases h; exact hk
  refine call_h 0 h (fun t5 e81 h => ?_)
  refine br_etn h (congrArg not dect) (fun c82 h => ?_) (fun c82 h => ?_)
  ·cases h; exact hk
  refine br_t (by first | (simp [c78]; done) | (simp; omega) | (simp only [List.length_append, List.length_cons, List.length_nil, List.length_take, List.length_drop] at c75 ⊢; simp; omega) | (simp only [List.length_append, List.length_cons, List.length_nil, List.length_take, List.length_drop] at c75; simp; omega) | (simp_all; done)) ?_
  refine br_t (by first | (simp [c79]; done) | (simp; omega) | (simp only [List.length_append, List.length_cons, List.length_nil, List.length_take, List.length_drop] at c75 ⊢; simp; omega) | (simp only [List.length_append, List.length_cons, List.length_nil, List.length_take, List.length_drop] at c75; simp; omega) | (simp_all; done)) ?_
  exact (ih N (by omega)).2 _ _ _ _ _ _ _ _ _ h hk
theorem okc_83 (args : List (AV tau)) (m : Mem tau) (κ : AV tau → Mem tau → Option Unit) (hh : c_83 args m κ = some ()) : ∃ av m1, κ av m1 = some () ∧ ToldA Try.prog TT (pnT 83) 83 args m av m1 := by
 obtain ⟨bx_, rw_⟩ := m
 unfold c_83 at hh
 simp only at hh
 split at hh
 case h_2 => cases hh
 rename_i b0 b1 b2 b3
 obtain ⟨l0_0, hx0, hh0⟩ := bO_some hh
 obtain ⟨l0_1, hx1, hh1⟩ := bO_some hh0
 obtain ⟨a0_2, hx2, hh2⟩ := bO_some hh1
 obtain ⟨a0_3, hx3, hh3⟩ := bO_some hh2
 have ex0 := asSl_some hx0
 have ex1 := asSl_some hx1
 have ex2 := asI_some hx2
 have ex3 := asI_some hx3
 subst ex0 ex1 ex2 ex3
 obtain ⟨N, t, h, hκ⟩ := callX_some hh3
 refine ⟨_, _, hκ, told_of_run pq okC_83 (fun _ _ _ => drawA_ok pq okC_83 hmix) (E := E_83) (fn := Try.f83) (body := B_83) (by kernel_rfl) (by kernel_rfl) (by kernel_rfl) (by rfl) (by exact Nat.le_of_ble_eq_true rfl) (fun k hk => ?_)⟩
 refine (w_83 l0_0 l0_1 a0_2 a0_3 k).trans ?_
 replace h : impl_ExecOk.f N l0_0 l0_1 a0_2 a0_3 = some t := h
 unfold impl_ExecOk.f at h
 refine call_h 0 h (fun t0 e83 h => ?_)
 refine br_etn h (congrArg not dect) (fun c84 h => ?_) (fun c84 h => ?_)
 ·rcases N with _ | N
  · cases h
  first | rw [impl_ExecOk.j0] at h | simp only [impl_ExecOk.j0] at h | (unfold impl_ExecOk.j0 at h; dsimp only at h)
  replace h := ite_t h (by first | assumption | omega | simp_all)
  cases h; exact hk
 refine call_h 0 h (fun t1 e85 h => ?_)
 refine br_etn h (congrArg not dect) (fun c86 h => ?_) (fun c86 h => ?_)
 ·rcases N with _ | N
  · cases h
  first | rw [impl_ExecOk.j0] at h | simp only [impl_ExecOk.j0] at h | (unfold impl_ExecOk.j0 at h; dsimp only at h)
  replace h := ite_t h (by first | assumption | omega | simp_all)
  cases h; exact hk
 refine br_itn h rfl (fun c87 h => ?_) (fun c87 h => ?_)
 ·refine br_eti h rfl (fun c88 h => ?_) (fun c88 h => ?_)
  ·rcases N with _ | N
   · cases h
   first | rw [impl_ExecOk.j0] at h | simp only [impl_ExecOk.j0] at h | (unfold impl_ExecOk.j0 at h; dsimp only at h)
   replace h := ite_f h (by first | assumption | omega | simp_all)
   exact (L_83 N).1 _ _ _ _ _ _ _ _ _ _ _ _ _ _ _ _ _ h hk
  rcases N with _ | N
  · cases h
  first | rw [impl_ExecOk.j0] at h | simp only [impl_ExecOk.j0] at h | (unfold impl_ExecOk.j0 at h; dsimp only at h)
  refine br_ite h (by first | rfl | exact dect | exact (congrArg not dect) | (simp; done) | (simp [beqI]; done) | (simp; omega)) (fun c89 h => ?_) (fun c89 h => ?_)
  ·cases h; exact hk
  exact (L_83 N).1 _ _ _ _ _ _ _ _ _ _ _ _ _ _ _ _ _ h hk
 refine br_etn h rfl (fun c90 h => ?_) (fun c90 h => ?_)
 ·rcases N with _ | N
  · cases h
  first | rw [impl_ExecOk.j0] at h | simp only [impl_ExecOk.j0] at h | (unfold impl_ExecOk.j0 at h; dsimp only at h)
  replace h := ite_t h (by first | assumption | omega | simp_all)
  cases h; exact hk
 refine br_ite h rfl (fun c91 h => ?_) (fun c91 h => ?_)
 ·rcases N with _ | N
  · cases h
  first | rw [impl_ExecOk.j0] at h | simp only [impl_ExecOk.j0] at h | (unfold impl_ExecOk.j0 at h; dsimp only at h)
  replace h := ite_t h (by first | assumption | omega | simp_all)
  cases h; exact hk
 refine br_eti h rfl (fun c92 h => ?_) (fun c92 h => ?_)
 ·rcases N with _ | N
  · cases h
  first | rw [impl_ExecOk.j0] at h | simp only [impl_ExecOk.j0] at h | (unfold impl_ExecOk.j0 at h; dsimp only at h)
  replace h := ite_f h (by first | assumption | omega | simp_all)
  exact (L_83 N).1 _ _ _ _ _ _ _ _ _ _ _ _ _ _ _ _ _ h hk
 rcases N with _ | N
 · cases h
 first | rw [impl_ExecOk.j0] at h | simp only [impl_ExecOk.j0] at h | (unfold impl_ExecOk.j0 at h; dsimp only at h)
 refine br_ite h (by first | rfl | exact dect | exact (congrArg not dect) | (simp; done) | (simp [beqI]; done) | (simp; omega)) (fun c93 h => ?_) (fun c93 h => ?_)
 ·cases h; exact hk
 exact (L_83 N).1 _ _ _ _ _ _ _ _ _ _ _ _ _ _ _ _ _ h hk
noncomputable def C_93 : Ctr tau Unit := ctrS 83 c_83 C_83
noncomputable def D_93 : Drw tau := drawA E_93 C_93
theorem okC_93 : CtrOk Try.prog TT pnT C_93 := ctrS_ok okC_83 okc_83
theorem mC_93 : CtrMono C_93 := ctrS_mono mC_83 mc_83
theorem mD_93 : DrMono D_93 := drawA_mono mC_93
noncomputable def B_93 : Code := Try.f93.body.getD .skip
theorem mc_93 (args : List (AV tau)) (m : Mem tau) (k k' : AV tau → Mem tau → Option Unit) (hk : ∀ av m, k av m = some () → k' av m = some ()) (h : c_93 args m k = some ()) : c_93 args m k' = some () := by
 unfold c_93 at h ⊢
 split at h
 · repeat' first | exact callX_mono (fun _ h => hk _ _ h) h | refine bO_mono (fun _ h => ?_) h
 · cases h
theorem w_93 (l0 : List S37) (k : AV tau → Mem tau → Option Unit) : fnA E_93 C_93 D_93 Try.f93 B_93 [.sl 37 l0] ⟨[], []⟩ k = (brA (decide (((l0.length : Nat) : Int) = (0 : Int))) (k (.own 0 0) ⟨[], [some ⟨37, ([] : List S37), 0⟩]⟩) (brA (decide ((Int.toNat ((l0.length : Nat) : Int)) ≤ 17592186044416)) (k (.own 0 0) ⟨[], [some ⟨37, ((List.take ((List.replicate (Int.toNat ((l0.length : Nat) : Int)) (⟨(0 : Int), (0 : Int)⟩ : S37)).length) l0) ++ (List.drop l0.length (List.replicate (Int.toNat ((l0.length : Nat) : Int)) (⟨(0 : Int), (0 : Int)⟩ : S37)))), 0⟩]⟩) (none)) : Option Unit) := by kernel_rfl
theorem okc_93 (args : List (AV tau)) (m : Mem tau) (κ : AV tau → Mem tau → Option Unit) (hh : c_93 args m κ = some ()) : ∃ av m1, κ av m1 = some () ∧ ToldA Try.prog TT (pnT 93) 93 args m av m1 := by
 obtain ⟨bx_, rw_⟩ := m
 unfold c_93 at hh
 simp only at hh
 split at hh
 case h_2 => cases hh
 rename_i b0
 obtain ⟨l0, hx0, hh0⟩ := bO_some hh
 have ex0 := asSl_some hx0
 subst ex0
 obtain ⟨N, t, h, hκ⟩ := callX_some hh0
 refine ⟨_, _, hκ, told_of_run pq okC_93 (fun _ _ _ => drawA_ok pq okC_93 hmix) (E := E_93) (fn := Try.f93) (body := B_93) (by kernel_rfl) (by kernel_rfl) (by kernel_rfl) (by rfl) (by exact Nat.le_of_ble_eq_true rfl) (fun k hk => ?_)⟩
 refine (w_93 l0 k).trans ?_
 replace h : impl_copied_impl_Box.f l0 = some t := h
 unfold impl_copied_impl_Box.f at h
 refine ite_x h (fun c1 h => ?_) (fun _ h => by cases h)
 cases h
 exact copied_of (α := S37) l0 _ _ (k := fun q : List S37 => k (.own 0 0) ⟨[], [some ⟨37, q, 0⟩]⟩) c1 hk
noncomputable def C_117 : Ctr tau Unit := ctrS 93 c_93 C_93
noncomputable def D_117 : Drw tau := drawA E_117 C_117
theorem okC_117 : CtrOk Try.prog TT pnT C_117 := ctrS_ok okC_93 okc_93
theorem mC_117 : CtrMono C_117 := ctrS_mono mC_93 mc_93
theorem mD_117 : DrMono D_117 := drawA_mono mC_117
noncomputable def B_117 : Code := Try.f117.body.getD .skip
theorem mc_117 (args : List (AV tau)) (m : Mem tau) (k k' : AV tau → Mem tau → Option Unit) (hk : ∀ av m, k av m = some () → k' av m = some ()) (h : c_117 args m k = some ()) : c_117 args m k' = some () := by
 unfold c_117 at h ⊢
 split at h
 · repeat' first | exact callX_mono (fun _ h => hk _ _ h) h | refine bO_mono (fun _ h => ?_) h
 · cases h
noncomputable def K_117_0 (k : AV tau → Mem tau → Option Unit) : Kon tau := (kBlock 0 (kS E_117 C_117 D_117 (codeP B_117 [1, 1, 1, 1]) (kEnd E_117 Try.f117 k)))
def st_117_0 (x0 : (List S82)) (x1 : Int) (x2 : Int) (x3 : (List S37)) : St tau := ⟨tmL 42 0 [(5, .own 0 0), (19, .sl 82 x0), (20, .int .i64 x1), (21, .int .i64 x2)], ⟨[], [some ⟨37, x3, 0⟩]⟩⟩
noncomputable def LP_117_0 (k : AV tau → Mem tau → Option Unit) (x0 : (List S82)) (x1 : Int) (x2 : Int) (x3 : (List S37)) : Option Unit := loopA E_117 (codeA E_117 C_117 D_117 (codeP B_117 [1, 1, 1, 0, 1, 0, 0])) (codeP B_117 [1, 1, 1, 0, 1, 0, 0]) (K_117_0 k) (st_117_0 x0 x1 x2 x3)
theorem w_117_0 (k : AV tau → Mem tau → Option Unit) (x0 : (List S82)) (x1 : Int) (x2 : Int) (x3 : (List S37)) : codeA E_117 C_117 D_117 (codeP B_117 [1, 1, 1, 0, 1, 0, 0]) (kL E_117 C_117 D_117 (codeP B_117 [1, 1, 1, 0, 1, 0, 0]) (K_117_0 k)) (st_117_0 x0 x1 x2 x3) = (brA (decide (x2 < x1)) (brA (decide ((0 : Int) ≤ x2)) (brA (decide (x2 < ((x0.length : Nat) : Int))) (brA (decide ((0 : Int) ≤ (rd_T82 x0 x2).f0)) (brA (decide ((rd_T82 x0 x2).f0 < ((x3.length : Nat) : Int))) (brA (decide ((0 : Int) ≤ (rd_T82 x0 x2).f0)) (brA (decide ((rd_T82 x0 x2).f0 < ((x3.length : Nat) : Int))) (LP_117_0 k x0 x1 (wrap64 (x2 + (1 : Int))) (List.set x3 (Int.toNat ((rd_T82 x0 x2).f0)) (⟨(if (wrap64 ((rd_T37 x3 ((rd_T82 x0 x2).f0)).f0 + (1 : Int))) < (1000000 : Int) then (wrap64 ((rd_T37 x3 ((rd_T82 x0 x2).f0)).f0 + (1 : Int))) else (1000000 : Int)), (rd_T82 x0 x2).f1⟩ : S37))) (none)) (none)) (none)) (none)) (none)) (none)) (k (.own 0 0) ⟨[], [some ⟨37, x3, 0⟩]⟩) : Option Unit) := by
 simp only [← wrapA_i64]
 kernel_rfl
theorem w_117 (l0 : List S37) (l1_0 : List S39) (l1_1 : List S82) (a1_2 : Int) (a1_3 : Int) (k : AV tau → Mem tau → Option Unit) : fnA E_117 C_117 D_117 Try.f117 B_117 [.sl 37 l0, .agg [.sl 39 l1_0, .sl 82 l1_1, .int .i64 a1_2, .int .i64 a1_3]] ⟨[], []⟩ k = (callX (fun n => impl_BoxOk.f n l0) fun t0 => brA (!t0) (k (.own 0 0) ⟨[], [some ⟨37, ([] : List S37), 0⟩]⟩) (callX (fun n => impl_ExecOk.f n l1_0 l1_1 a1_2 a1_3) fun t1 => brA (!t1) (k (.own 0 0) ⟨[], [some ⟨37, ([] : List S37), 0⟩]⟩) (callX (fun n => impl_copied_impl_Box.f l0) fun t2 => LP_117_0 k l1_1 ((l1_1.length : Nat) : Int) (0 : Int) t2)) : Option Unit) := by kernel_rfl
def S_117_0 (N : Nat) : Prop := ∀ (k : AV tau → Mem tau → Option Unit) (x0 : (List S82)) (x1 : Int) (x2 : Int) (x3 : (List S37)) (r : (List (S37))), impl_ExecDo.l0 N (x3) (x0) (x1) (x2) = some r → k (.own 0 0) ⟨[], [some ⟨37, r, 0⟩]⟩ = some () → LP_117_0 k x0 x1 x2 x3 = some ()
theorem L_117 (N : Nat) : S_117_0 N := by
 induction N using Nat.strongRecOn with | _ N0 ih =>
 skip
 intro k x0 x1 x2 x3 r h hk
 rcases N0 with _ | N
 · cases h
 first | rw [impl_ExecDo.l0] at h | simp only [impl_ExecDo.l0] at h | (unfold impl_ExecDo.l0 at h; dsimp only at h)
 refine loop_fold mC_117 mD_117 ?_
 refine (w_117_0 k x0 x1 x2 x3).trans ?_
 refine br_eti h rfl (fun c21 h => ?_) (fun c21 h => ?_)
 ·cases h; exact hk
 refine br_g h rfl (fun c22 h => ?_)
 refine br_g h rfl (fun c23 h => ?_)
 refine br_g h rfl (fun c24 h => ?_)
 refine br_g h rfl (fun c25 h => ?_)
 refine br_t (by first | (simp [c24]; done) | (simp; omega) | (simp only [List.length_append, List.length_cons, List.length_nil, List.length_take, List.length_drop] at c25 c23 ⊢; simp; omega) | (simp only [List.length_append, List.length_cons, List.length_nil, List.length_take, List.length_drop] at c25 c23; simp; omega) | (simp_all; done)) ?_
 refine br_t (by first | (simp [c25]; done) | (simp; omega) | (simp only [List.length_append, List.length_cons, List.length_nil, List.length_take, List.length_drop] at c25 c23 ⊢; simp; omega) | (simp only [List.length_append, List.length_cons, List.length_nil, List.length_take, List.length_drop] at c25 c23; simp; omega) | (simp_all; done)) ?_
 exact (ih N (by omega)) _ _ _ _ _ _ h hk
theorem okc_117 (args : List (AV tau)) (m : Mem tau) (κ : AV tau → Mem tau → Option Unit) (hh : c_117 args m κ = some ()) : ∃ av m1, κ av m1 = some () ∧ ToldA Try.prog TT (pnT 117) 117 args m av m1 := by
 obtain ⟨bx_, rw_⟩ := m
 unfold c_117 at hh
 simp only at hh
 split at hh
 case h_2 => cases hh
 rename_i b0 b1 b2 b3 b4
 obtain ⟨l0, hx0, hh0⟩ := bO_some hh
 obtain ⟨l1_0, hx1, hh1⟩ := bO_some hh0
 obtain ⟨l1_1, hx2, hh2⟩ := bO_some hh1
 obtain ⟨a1_2, hx3, hh3⟩ := bO_some hh2
 obtain ⟨a1_3, hx4, hh4⟩ := bO_some hh3
 have ex0 := asSl_some hx0
 have ex1 := asSl_some hx1
 have ex2 := asSl_some hx2
 have ex3 := asI_some hx3
 have ex4 := asI_some hx4
 subst ex0 ex1 ex2 ex3 ex4
 obtain ⟨N, t, h, hκ⟩ := callX_some hh4
 refine ⟨_, _, hκ, told_of_run pq okC_117 (fun _ _ _ => drawA_ok pq okC_117 hmix) (E := E_117) (fn := Try.f117) (body := B_117) (by kernel_rfl) (by kernel_rfl) (by kernel_rfl) (by rfl) (by exact Nat.le_of_ble_eq_true rfl) (fun k hk => ?_)⟩
 refine (w_117 l0 l1_0 l1_1 a1_2 a1_3 k).trans ?_
 replace h : impl_ExecDo.f N l0 l1_0 l1_1 a1_2 a1_3 = some t := h
 unfold impl_ExecDo.f at h
 refine call_h N h (fun t0 e26 h => ?_)
 refine br_etn h (congrArg not dect) (fun c27 h => ?_) (fun c27 h => ?_)
 ·rcases N with _ | N
  · cases h
  first | rw [impl_ExecDo.j0] at h | simp only [impl_ExecDo.j0] at h | (unfold impl_ExecDo.j0 at h; dsimp only at h)
  replace h := ite_t h (by first | assumption | omega | simp_all)
  cases h; exact hk
 refine call_h N h (fun t1 e28 h => ?_)
 rcases N with _ | N
 · cases h
 first | rw [impl_ExecDo.j0] at h | simp only [impl_ExecDo.j0] at h | (unfold impl_ExecDo.j0 at h; dsimp only at h)
 refine br_ite h dect (fun c29 h => ?_) (fun c29 h => ?_)
 ·cases h; exact hk
 refine call_h 0 h (fun t2 e30 h => ?_)
 exact (L_117 N) _ _ _ _ _ _ h hk
noncomputable def C_63 : Ctr tau Unit := ctrS 117 c_117 C_117
noncomputable def D_63 : Drw tau := drawA E_63 C_63
theorem okC_63 : CtrOk Try.prog TT pnT C_63 := ctrS_ok okC_117 okc_117
theorem mC_63 : CtrMono C_63 := ctrS_mono mC_117 mc_117
theorem mD_63 : DrMono D_63 := drawA_mono mC_63
noncomputable def B_63 : Code := Try.f63.body.getD .skip
theorem mc_63 (args : List (AV tau)) (m : Mem tau) (k k' : AV tau → Mem tau → Option Unit) (hk : ∀ av m, k av m = some () → k' av m = some ()) (h : c_63 args m k = some ()) : c_63 args m k' = some () := by
 unfold c_63 at h ⊢
 split at h
 · repeat' first | exact callX_mono (fun _ h => hk _ _ h) h | refine bO_mono (fun _ h => ?_) h
 · cases h
theorem w_63 (l0 : List S37) (l1 : List S95) (k : AV tau → Mem tau → Option Unit) : fnA E_63 C_63 D_63 Try.f63 B_63 [.sl 37 l0, .sl 95 l1] ⟨[], []⟩ k = (callX (fun n => impl_ExecRun.f n l0 l1) fun t0 => brA (decide (t0.2.2.2 = (3 : Int))) (k (.tup [.own 0 0, .int .i64 (0 : Int), .int .i64 (3 : Int)]) ⟨[], [some ⟨37, ([] : List S37), 0⟩]⟩) (callX (fun n => impl_ExecDo.f n l0 t0.1 t0.2.1 t0.2.2.1 t0.2.2.2) fun t1 => k (.tup [.own 0 0, .int .i64 t0.2.2.1, .int .i64 t0.2.2.2]) ⟨[], [some ⟨37, t1, 0⟩]⟩) : Option Unit) := by kernel_rfl
theorem okc_63 (args : List (AV tau)) (m : Mem tau) (κ : AV tau → Mem tau → Option Unit) (hh : c_63 args m κ = some ()) : ∃ av m1, κ av m1 = some () ∧ ToldA Try.prog TT (pnT 63) 63 args m av m1 := by
 obtain ⟨bx_, rw_⟩ := m
 unfold c_63 at hh
 simp only at hh
 split at hh
 case h_2 => cases hh
 rename_i b0 b1
 obtain ⟨l0, hx0, hh0⟩ := bO_some hh
 obtain ⟨l1, hx1, hh1⟩ := bO_some hh0
 have ex0 := asSl_some hx0
 have ex1 := asSl_some hx1
 subst ex0 ex1
 obtain ⟨N, t, h, hκ⟩ := callX_some hh1
 refine ⟨_, _, hκ, told_of_run pq okC_63 (fun _ _ _ => drawA_ok pq okC_63 hmix) (E := E_63) (fn := Try.f63) (body := B_63) (by kernel_rfl) (by kernel_rfl) (by kernel_rfl) (by rfl) (by exact Nat.le_of_ble_eq_true rfl) (fun k hk => ?_)⟩
 refine (w_63 l0 l1 k).trans ?_
 replace h : impl_SerialOne.f N l0 l1 = some t := h
 unfold impl_SerialOne.f at h
 refine call_h N h (fun t0 e4 h => ?_)
 refine br_ite h rfl (fun c5 h => ?_) (fun c5 h => ?_)
 ·cases h; exact hk
 refine call_h N h (fun t1 e6 h => ?_)
 cases h; exact hk
noncomputable def C_94 : Ctr tau Unit := ctrS 63 c_63 C_63
noncomputable def D_94 : Drw tau := drawA E_94 C_94
theorem okC_94 : CtrOk Try.prog TT pnT C_94 := ctrS_ok okC_63 okc_63
theorem mC_94 : CtrMono C_94 := ctrS_mono mC_63 mc_63
theorem mD_94 : DrMono D_94 := drawA_mono mC_94
noncomputable def B_94 : Code := Try.f94.body.getD .skip
theorem mc_94 (args : List (AV tau)) (m : Mem tau) (k k' : AV tau → Mem tau → Option Unit) (hk : ∀ av m, k av m = some () → k' av m = some ()) (h : c_94 args m k = some ()) : c_94 args m k' = some () := by
 unfold c_94 at h ⊢
 split at h
 · repeat' first | exact callX_mono (fun _ h => hk _ _ h) h | refine bO_mono (fun _ h => ?_) h
 · cases h
theorem w_94 (l0 : List Int) (k : AV tau → Mem tau → Option Unit) : fnA E_94 C_94 D_94 Try.f94 B_94 [.sl 3 l0] ⟨[], []⟩ k = (brA (decide (((l0.length : Nat) : Int) = (0 : Int))) (k (.own 0 0) ⟨[], [some ⟨3, ([] : List Int), 0⟩]⟩) (brA (decide ((Int.toNat ((l0.length : Nat) : Int)) ≤ 35184372088832)) (k (.own 0 0) ⟨[], [some ⟨3, ((List.take ((List.replicate (Int.toNat ((l0.length : Nat) : Int)) (0 : Int)).length) l0) ++ (List.drop l0.length (List.replicate (Int.toNat ((l0.length : Nat) : Int)) (0 : Int)))), 0⟩]⟩) (none)) : Option Unit) := by kernel_rfl
theorem okc_94 (args : List (AV tau)) (m : Mem tau) (κ : AV tau → Mem tau → Option Unit) (hh : c_94 args m κ = some ()) : ∃ av m1, κ av m1 = some () ∧ ToldA Try.prog TT (pnT 94) 94 args m av m1 := by
 obtain ⟨bx_, rw_⟩ := m
 unfold c_94 at hh
 simp only at hh
 split at hh
 case h_2 => cases hh
 rename_i b0
 obtain ⟨l0, hx0, hh0⟩ := bO_some hh
 have ex0 := asSl_some hx0
 subst ex0
 obtain ⟨N, t, h, hκ⟩ := callX_some hh0
 refine ⟨_, _, hκ, told_of_run pq okC_94 (fun _ _ _ => drawA_ok pq okC_94 hmix) (E := E_94) (fn := Try.f94) (body := B_94) (by kernel_rfl) (by kernel_rfl) (by kernel_rfl) (by rfl) (by exact Nat.le_of_ble_eq_true rfl) (fun k hk => ?_)⟩
 refine (w_94 l0 k).trans ?_
 replace h : impl_copied_int.f l0 = some t := h
 unfold impl_copied_int.f at h
 refine ite_x h (fun c1 h => ?_) (fun _ h => by cases h)
 cases h
 exact copied_of (α := Int) l0 _ _ (k := fun q : List Int => k (.own 0 0) ⟨[], [some ⟨3, q, 0⟩]⟩) c1 hk
noncomputable def C_29 : Ctr tau Unit := ctrS 94 c_94 C_94
noncomputable def D_29 : Drw tau := drawA E_29 C_29
theorem okC_29 : CtrOk Try.prog TT pnT C_29 := ctrS_ok okC_94 okc_94
theorem mC_29 : CtrMono C_29 := ctrS_mono mC_94 mc_94
theorem mD_29 : DrMono D_29 := drawA_mono mC_29
noncomputable def B_29 : Code := Try.f29.body.getD .skip
theorem mc_29 (args : List (AV tau)) (m : Mem tau) (k k' : AV tau → Mem tau → Option Unit) (hk : ∀ av m, k av m = some () → k' av m = some ()) (h : c_29 args m k = some ()) : c_29 args m k' = some () := by
 unfold c_29 at h ⊢
 split at h
 · repeat' first | exact callX_mono (fun _ h => hk _ _ h) h | refine bO_mono (fun _ h => ?_) h
 · cases h
noncomputable def K_29_0 (k : AV tau → Mem tau → Option Unit) : Kon tau := (kBlock 0 (kS E_29 C_29 D_29 (codeP B_29 [1, 1, 1, 1, 1]) (kEnd E_29 Try.f29 k)))
def st_29_0 (x0 : (List (List S95))) (x1 : Int) (x2 : Int) (x3 : (List S37)) (x4 : (List Int)) : St tau := ⟨tmL 47 0 [(6, .own 0 0), (7, .own 1 0), (23, .sl 60 x0), (24, .int .i64 x1), (25, .int .i64 x2)], ⟨[], [some ⟨37, x3, 0⟩, some ⟨3, x4, 0⟩]⟩⟩
noncomputable def LP_29_0 (k : AV tau → Mem tau → Option Unit) (x0 : (List (List S95))) (x1 : Int) (x2 : Int) (x3 : (List S37)) (x4 : (List Int)) : Option Unit := loopA E_29 (codeA E_29 C_29 D_29 (codeP B_29 [1, 1, 1, 1, 0, 1, 0, 0])) (codeP B_29 [1, 1, 1, 1, 0, 1, 0, 0]) (K_29_0 k) (st_29_0 x0 x1 x2 x3 x4)
theorem w_29_0 (k : AV tau → Mem tau → Option Unit) (x0 : (List (List S95))) (x1 : Int) (x2 : Int) (x3 : (List S37)) (x4 : (List Int)) : codeA E_29 C_29 D_29 (codeP B_29 [1, 1, 1, 1, 0, 1, 0, 0]) (kL E_29 C_29 D_29 (codeP B_29 [1, 1, 1, 1, 0, 1, 0, 0]) (K_29_0 k)) (st_29_0 x0 x1 x2 x3 x4) = (brA (decide (x2 < x1)) (brA (decide ((0 : Int) ≤ x2)) (brA (decide (x2 < ((x0.length : Nat) : Int))) (callX (fun n => impl_SerialOne.f n x3 (List.getD x0 (Int.toNat x2) [])) fun t2 => brA (decide (t2.2.2 = (3 : Int))) (k (.tup [.own 0 0, .own 1 0]) ⟨[], [some ⟨37, ([] : List S37), 0⟩, some ⟨3, ([] : List Int), 0⟩]⟩) (brA (decide ((x4.length + 1) ≤ 17592186044416)) (LP_29_0 k x0 x1 (wrap64 (x2 + (1 : Int))) t2.1 (x4 ++ ([t2.2.1] : List Int))) (none))) (none)) (none)) (callX (fun n => impl_copied_int.f x4) fun t3 => k (.tup [.own 0 0, .own 1 0]) ⟨[], [some ⟨37, x3, 0⟩, some ⟨3, t3, 0⟩]⟩) : Option Unit) := by
 simp only [← wrapA_i64]
 kernel_rfl
theorem w_29 (l0 : List S37) (l1 : List (List S95)) (k : AV tau → Mem tau → Option Unit) : fnA E_29 C_29 D_29 Try.f29 B_29 [.sl 37 l0, .sl 60 l1] ⟨[], []⟩ k = (callX (fun n => impl_BoxOk.f n l0) fun t0 => brA (!t0) (k (.tup [.own 0 0, .own 1 0]) ⟨[], [some ⟨37, ([] : List S37), 0⟩, some ⟨3, ([] : List Int), 0⟩]⟩) (brA (decide (((l1.length : Nat) : Int) > (100 : Int))) (k (.tup [.own 0 0, .own 1 0]) ⟨[], [some ⟨37, ([] : List S37), 0⟩, some ⟨3, ([] : List Int), 0⟩]⟩) (callX (fun n => impl_copied_impl_Box.f l0) fun t1 => LP_29_0 k l1 ((l1.length : Nat) : Int) (0 : Int) t1 ([] : List Int))) : Option Unit) := by kernel_rfl
def S_29_0 (N : Nat) : Prop := ∀ (k : AV tau → Mem tau → Option Unit) (x0 : (List (List S95))) (x1 : Int) (x2 : Int) (x3 : (List S37)) (x4 : (List Int)) (r : (List (S37)) × List Int), impl_SerialAll.l0 N (x3) (x4) (x0) (x1) (x2) = some r → k (.tup [.own 0 0, .own 1 0]) ⟨[], [some ⟨37, r.1, 0⟩, some ⟨3, r.2, 0⟩]⟩ = some () → LP_29_0 k x0 x1 x2 x3 x4 = some ()
theorem L_29 (N : Nat) : S_29_0 N := by
 induction N using Nat.strongRecOn with | _ N0 ih =>
 skip
 intro k x0 x1 x2 x3 x4 r h hk
 rcases N0 with _ | N
 · cases h
 first | rw [impl_SerialAll.l0] at h | simp only [impl_SerialAll.l0] at h | (unfold impl_SerialAll.l0 at h; dsimp only at h)
 refine loop_fold mC_29 mD_29 ?_
 refine (w_29_0 k x0 x1 x2 x3 x4).trans ?_
 refine br_eti h rfl (fun c23 h => ?_) (fun c23 h => ?_)
 ·refine call_h 0 h (fun t3 e24 h => ?_)
  cases h; exact hk
 refine br_g h rfl (fun c25 h => ?_)
 refine br_g h rfl (fun c26 h => ?_)
 refine call_h N h (fun t2 e27 h => ?_)
 refine br_ite h rfl (fun c28 h => ?_) (fun c28 h => ?_)
 ·cases h; exact hk
 refine br_g h (by first | rfl | exact dect | exact (congrArg not dect) | (simp; done) | (simp [beqI]; done) | (simp; omega)) (fun c29 h => ?_)
 exact (ih N (by omega)) _ _ _ _ _ _ _ h hk
theorem okc_29 (args : List (AV tau)) (m : Mem tau) (κ : AV tau → Mem tau → Option Unit) (hh : c_29 args m κ = some ()) : ∃ av m1, κ av m1 = some () ∧ ToldA Try.prog TT (pnT 29) 29 args m av m1 := by
 obtain ⟨bx_, rw_⟩ := m
 unfold c_29 at hh
 simp only at hh
 split at hh
 case h_2 => cases hh
 rename_i b0 b1
 obtain ⟨l0, hx0, hh0⟩ := bO_some hh
 obtain ⟨l1, hx1, hh1⟩ := bO_some hh0
 have ex0 := asSl_some hx0
 have ex1 := asSl_some hx1
 subst ex0 ex1
 obtain ⟨N, t, h, hκ⟩ := callX_some hh1
 refine ⟨_, _, hκ, told_of_run pq okC_29 (fun _ _ _ => drawA_ok pq okC_29 hmix) (E := E_29) (fn := Try.f29) (body := B_29) (by kernel_rfl) (by kernel_rfl) (by kernel_rfl) (by rfl) (by exact Nat.le_of_ble_eq_true rfl) (fun k hk => ?_)⟩
 refine (w_29 l0 l1 k).trans ?_
 replace h : impl_SerialAll.f N l0 l1 = some t := h
 unfold impl_SerialAll.f at h
 refine call_h N h (fun t0 e30 h => ?_)
 refine br_etn h (congrArg not dect) (fun c31 h => ?_) (fun c31 h => ?_)
 ·rcases N with _ | N
  · cases h
  first | rw [impl_SerialAll.j0] at h | simp only [impl_SerialAll.j0] at h | (unfold impl_SerialAll.j0 at h; dsimp only at h)
  replace h := ite_t h (by first | assumption | omega | simp_all)
  cases h; exact hk
 rcases N with _ | N
 · cases h
 first | rw [impl_SerialAll.j0] at h | simp only [impl_SerialAll.j0] at h | (unfold impl_SerialAll.j0 at h; dsimp only at h)
 refine br_ite h (by first | rfl | exact dect | exact (congrArg not dect) | (simp; done) | (simp [beqI]; done) | (simp; omega)) (fun c32 h => ?_) (fun c32 h => ?_)
 ·cases h; exact hk
 refine call_h 0 h (fun t1 e33 h => ?_)
 exact (L_29 N) _ _ _ _ _ _ _ h hk
noncomputable def C_95 : Ctr tau Unit := ctrS 29 c_29 C_29
noncomputable def D_95 : Drw tau := drawA E_95 C_95
theorem okC_95 : CtrOk Try.prog TT pnT C_95 := ctrS_ok okC_29 okc_29
theorem mC_95 : CtrMono C_95 := ctrS_mono mC_29 mc_29
theorem mD_95 : DrMono D_95 := drawA_mono mC_95
noncomputable def B_95 : Code := Try.f95.body.getD .skip
theorem mc_95 (args : List (AV tau)) (m : Mem tau) (k k' : AV tau → Mem tau → Option Unit) (hk : ∀ av m, k av m = some () → k' av m = some ()) (h : c_95 args m k = some ()) : c_95 args m k' = some () := by
 unfold c_95 at h ⊢
 split at h
 · repeat' first | exact callX_mono (fun _ h => hk _ _ h) h | refine bO_mono (fun _ h => ?_) h
 · cases h
theorem w_95 (a0_0 : Int) (a0_1 : Int) (a1_0 : Int) (a1_1 : Int) (k : AV tau → Mem tau → Option Unit) : fnA E_95 C_95 D_95 Try.f95 B_95 [.agg [.int .i64 a0_0, .int .i64 a0_1], .agg [.int .i64 a1_0, .int .i64 a1_1]] ⟨[], []⟩ k = (brA (!(decide (a0_0 = a1_0))) (k (.bool false) ⟨[], []⟩) (brA (!(decide (a0_1 = a1_1))) (k (.bool false) ⟨[], []⟩) (k (.bool true) ⟨[], []⟩)) : Option Unit) := by kernel_rfl
theorem okc_95 (args : List (AV tau)) (m : Mem tau) (κ : AV tau → Mem tau → Option Unit) (hh : c_95 args m κ = some ()) : ∃ av m1, κ av m1 = some () ∧ ToldA Try.prog TT (pnT 95) 95 args m av m1 := by
 obtain ⟨bx_, rw_⟩ := m
 unfold c_95 at hh
 simp only at hh
 split at hh
 case h_2 => cases hh
 rename_i b0 b1 b2 b3
 obtain ⟨a0_0, hx0, hh0⟩ := bO_some hh
 obtain ⟨a0_1, hx1, hh1⟩ := bO_some hh0
 obtain ⟨a1_0, hx2, hh2⟩ := bO_some hh1
 obtain ⟨a1_1, hx3, hh3⟩ := bO_some hh2
 have ex0 := asI_some hx0
 have ex1 := asI_some hx1
 have ex2 := asI_some hx2
 have ex3 := asI_some hx3
 subst ex0 ex1 ex2 ex3
 obtain ⟨N, t, h, hκ⟩ := callX_some hh3
 refine ⟨_, _, hκ, told_of_run pq okC_95 (fun _ _ _ => drawA_ok pq okC_95 hmix) (E := E_95) (fn := Try.f95) (body := B_95) (by kernel_rfl) (by kernel_rfl) (by kernel_rfl) (by rfl) (by exact Nat.le_of_ble_eq_true rfl) (fun k hk => ?_)⟩
 refine (w_95 a0_0 a0_1 a1_0 a1_1 k).trans ?_
 replace h : laws_eqBox.f a0_0 a0_1 a1_0 a1_1 = some t := h
 unfold laws_eqBox.f at h
 refine br_etn h rfl (fun c3 h => ?_) (fun c3 h => ?_)
 ·cases h; exact hk
 refine br_itn h rfl (fun c4 h => ?_) (fun c4 h => ?_)
 ·cases h; exact hk
 cases h; exact hk
noncomputable def C_30 : Ctr tau Unit := ctrS 95 c_95 C_95
noncomputable def D_30 : Drw tau := drawA E_30 C_30
theorem okC_30 : CtrOk Try.prog TT pnT C_30 := ctrS_ok okC_95 okc_95
theorem mC_30 : CtrMono C_30 := ctrS_mono mC_95 mc_95
theorem mD_30 : DrMono D_30 := drawA_mono mC_30
noncomputable def B_30 : Code := Try.f30.body.getD .skip
theorem mc_30 (args : List (AV tau)) (m : Mem tau) (k k' : AV tau → Mem tau → Option Unit) (hk : ∀ av m, k av m = some () → k' av m = some ()) (h : c_30 args m k = some ()) : c_30 args m k' = some () := by
 unfold c_30 at h ⊢
 split at h
 · repeat' first | exact callX_mono (fun _ h => hk _ _ h) h | refine bO_mono (fun _ h => ?_) h
 · cases h
noncomputable def K_30_0 (k : AV tau → Mem tau → Option Unit) : Kon tau := (kBlock 0 (kS E_30 C_30 D_30 (codeP B_30 [1, 1, 1]) (kEnd E_30 Try.f30 k)))
def st_30_0 (x0 : (List S37)) (x1 : (List S37)) (x2 : Int) : St tau := ⟨tmL 27 0 [(0, .sl 37 x0), (1, .sl 37 x1), (5, .int .i64 x2)], ⟨[], []⟩⟩
noncomputable def LP_30_0 (k : AV tau → Mem tau → Option Unit) (x0 : (List S37)) (x1 : (List S37)) (x2 : Int) : Option Unit := loopA E_30 (codeA E_30 C_30 D_30 (codeP B_30 [1, 1, 0, 1, 0, 0])) (codeP B_30 [1, 1, 0, 1, 0, 0]) (K_30_0 k) (st_30_0 x0 x1 x2)
theorem w_30_0 (k : AV tau → Mem tau → Option Unit) (x0 : (List S37)) (x1 : (List S37)) (x2 : Int) : codeA E_30 C_30 D_30 (codeP B_30 [1, 1, 0, 1, 0, 0]) (kL E_30 C_30 D_30 (codeP B_30 [1, 1, 0, 1, 0, 0]) (K_30_0 k)) (st_30_0 x0 x1 x2) = (brA (decide (x2 < ((x0.length : Nat) : Int))) (brA (decide ((0 : Int) ≤ x2)) (brA (decide (x2 < ((x0.length : Nat) : Int))) (brA (decide ((0 : Int) ≤ x2)) (brA (decide (x2 < ((x1.length : Nat) : Int))) (callX (fun n => laws_eqBox.f ((rd_T37 x0 x2).f0) ((rd_T37 x0 x2).f1) ((rd_T37 x1 x2).f0) ((rd_T37 x1 x2).f1)) fun t0 => brA (!t0) (k (.bool false) ⟨[], []⟩) (LP_30_0 k x0 x1 (wrap64 (x2 + (1 : Int))))) (none)) (none)) (none)) (none)) (k (.bool true) ⟨[], []⟩) : Option Unit) := by
 simp only [← wrapA_i64]
 kernel_rfl
theorem w_30 (l0 : List S37) (l1 : List S37) (k : AV tau → Mem tau → Option Unit) : fnA E_30 C_30 D_30 Try.f30 B_30 [.sl 37 l0, .sl 37 l1] ⟨[], []⟩ k = (brA (!(decide (((l0.length : Nat) : Int) = ((l1.length : Nat) : Int)))) (k (.bool false) ⟨[], []⟩) (LP_30_0 k l0 l1 (0 : Int)) : Option Unit) := by kernel_rfl
def S_30_0 (N : Nat) : Prop := ∀ (k : AV tau → Mem tau → Option Unit) (x0 : (List S37)) (x1 : (List S37)) (x2 : Int) (r : Bool), laws_eqBoxS.l0 N (x0) (x1) (x2) = some r → k (.bool (r)) ⟨[], []⟩ = some () → LP_30_0 k x0 x1 x2 = some ()
theorem L_30 (N : Nat) : S_30_0 N := by
 induction N using Nat.strongRecOn with | _ N0 ih =>
 skip
 intro k x0 x1 x2 r h hk
 rcases N0 with _ | N
 · cases h
 first | rw [laws_eqBoxS.l0] at h | simp only [laws_eqBoxS.l0] at h | (unfold laws_eqBoxS.l0 at h; dsimp only at h)
 refine loop_fold mC_30 mD_30 ?_
 refine (w_30_0 k x0 x1 x2).trans ?_
 refine br_eti h rfl (fun c13 h => ?_) (fun c13 h => ?_)
 ·cases h; exact hk
 refine br_g h rfl (fun c14 h => ?_)
 refine br_t (by first | (simp [c13]; done) | (simp; omega) | (simp only [List.length_append, List.length_cons, List.length_nil, List.length_take, List.length_drop] at c13 ⊢; simp; omega) | (simp only [List.length_append, List.length_cons, List.length_nil, List.length_take, List.length_drop] at c13; simp; omega) | (simp_all; done)) ?_
 refine br_t (by first | (simp [c14]; done) | (simp; omega) | (simp only [List.length_append, List.length_cons, List.length_nil, List.length_take, List.length_drop] at c13 ⊢; simp; omega) | (simp only [List.length_append, List.length_cons, List.length_nil, List.length_take, List.length_drop] at c13; simp; omega) | (simp_all; done)) ?_
 refine br_g h rfl (fun c15 h => ?_)
 refine call_h 0 h (fun t0 e16 h => ?_)
 refine br_etn h (congrArg not dect) (fun c17 h => ?_) (fun c17 h => ?_)
 ·cases h; exact hk
 exact (ih N (by omega)) _ _ _ _ _ h hk
theorem okc_30 (args : List (AV tau)) (m : Mem tau) (κ : AV tau → Mem tau → Option Unit) (hh : c_30 args m κ = some ()) : ∃ av m1, κ av m1 = some () ∧ ToldA Try.prog TT (pnT 30) 30 args m av m1 := by
 obtain ⟨bx_, rw_⟩ := m
 unfold c_30 at hh
 simp only at hh
 split at hh
 case h_2 => cases hh
 rename_i b0 b1
 obtain ⟨l0, hx0, hh0⟩ := bO_some hh
 obtain ⟨l1, hx1, hh1⟩ := bO_some hh0
 have ex0 := asSl_some hx0
 have ex1 := asSl_some hx1
 subst ex0 ex1
 obtain ⟨N, t, h, hκ⟩ := callX_some hh1
 refine ⟨_, _, hκ, told_of_run pq okC_30 (fun _ _ _ => drawA_ok pq okC_30 hmix) (E := E_30) (fn := Try.f30) (body := B_30) (by kernel_rfl) (by kernel_rfl) (by kernel_rfl) (by rfl) (by exact Nat.le_of_ble_eq_true rfl) (fun k hk => ?_)⟩
 refine (w_30 l0 l1 k).trans ?_
 replace h : laws_eqBoxS.f N l0 l1 = some t := h
 unfold laws_eqBoxS.f at h
 refine br_etn h rfl (fun c18 h => ?_) (fun c18 h => ?_)
 ·cases h; exact hk
 exact (L_30 N) _ _ _ _ _ h hk
noncomputable def C_31 : Ctr tau Unit := ctrS 30 c_30 C_30
noncomputable def D_31 : Drw tau := drawA E_31 C_31
theorem okC_31 : CtrOk Try.prog TT pnT C_31 := ctrS_ok okC_30 okc_30
theorem mC_31 : CtrMono C_31 := ctrS_mono mC_30 mc_30
theorem mD_31 : DrMono D_31 := drawA_mono mC_31
noncomputable def B_31 : Code := Try.f31.body.getD .skip
theorem mc_31 (args : List (AV tau)) (m : Mem tau) (k k' : AV tau → Mem tau → Option Unit) (hk : ∀ av m, k av m = some () → k' av m = some ()) (h : c_31 args m k = some ()) : c_31 args m k' = some () := by
 unfold c_31 at h ⊢
 split at h
 · repeat' first | exact callX_mono (fun _ h => hk _ _ h) h | refine bO_mono (fun _ h => ?_) h
 · cases h
noncomputable def K_31_0 (k : AV tau → Mem tau → Option Unit) : Kon tau := (kBlock 0 (kS E_31 C_31 D_31 (codeP B_31 [1, 1, 1]) (kEnd E_31 Try.f31 k)))
def st_31_0 (x0 : (List Int)) (x1 : (List Int)) (x2 : Int) : St tau := ⟨tmL 26 0 [(0, .sl 3 x0), (1, .sl 3 x1), (5, .int .i64 x2)], ⟨[], []⟩⟩
noncomputable def LP_31_0 (k : AV tau → Mem tau → Option Unit) (x0 : (List Int)) (x1 : (List Int)) (x2 : Int) : Option Unit := loopA E_31 (codeA E_31 C_31 D_31 (codeP B_31 [1, 1, 0, 1, 0, 0])) (codeP B_31 [1, 1, 0, 1, 0, 0]) (K_31_0 k) (st_31_0 x0 x1 x2)
theorem w_31_0 (k : AV tau → Mem tau → Option Unit) (x0 : (List Int)) (x1 : (List Int)) (x2 : Int) : codeA E_31 C_31 D_31 (codeP B_31 [1, 1, 0, 1, 0, 0]) (kL E_31 C_31 D_31 (codeP B_31 [1, 1, 0, 1, 0, 0]) (K_31_0 k)) (st_31_0 x0 x1 x2) = (brA (decide (x2 < ((x0.length : Nat) : Int))) (brA (decide ((0 : Int) ≤ x2)) (brA (decide (x2 < ((x0.length : Nat) : Int))) (brA (decide ((0 : Int) ≤ x2)) (brA (decide (x2 < ((x1.length : Nat) : Int))) (brA (!(decide ((rd x0 x2) = (rd x1 x2)))) (k (.bool false) ⟨[], []⟩) (LP_31_0 k x0 x1 (wrap64 (x2 + (1 : Int))))) (none)) (none)) (none)) (none)) (k (.bool true) ⟨[], []⟩) : Option Unit) := by
 simp only [← wrapA_i64]
 kernel_rfl
theorem w_31 (l0 : List Int) (l1 : List Int) (k : AV tau → Mem tau → Option Unit) : fnA E_31 C_31 D_31 Try.f31 B_31 [.sl 3 l0, .sl 3 l1] ⟨[], []⟩ k = (brA (!(decide (((l0.length : Nat) : Int) = ((l1.length : Nat) : Int)))) (k (.bool false) ⟨[], []⟩) (LP_31_0 k l0 l1 (0 : Int)) : Option Unit) := by kernel_rfl
def S_31_0 (N : Nat) : Prop := ∀ (k : AV tau → Mem tau → Option Unit) (x0 : (List Int)) (x1 : (List Int)) (x2 : Int) (r : Bool), laws_eqIntS.l0 N (x0) (x1) (x2) = some r → k (.bool (r)) ⟨[], []⟩ = some () → LP_31_0 k x0 x1 x2 = some ()
theorem L_31 (N : Nat) : S_31_0 N := by
 induction N using Nat.strongRecOn with | _ N0 ih =>
 skip
 intro k x0 x1 x2 r h hk
 rcases N0 with _ | N
 · cases h
 first | rw [laws_eqIntS.l0] at h | simp only [laws_eqIntS.l0] at h | (unfold laws_eqIntS.l0 at h; dsimp only at h)
 refine loop_fold mC_31 mD_31 ?_
 refine (w_31_0 k x0 x1 x2).trans ?_
 refine br_eti h rfl (fun c11 h => ?_) (fun c11 h => ?_)
 ·cases h; exact hk
 refine br_g h rfl (fun c12 h => ?_)
 refine br_t (by first | (simp [c11]; done) | (simp; omega) | (simp only [List.length_append, List.length_cons, List.length_nil, List.length_take, List.length_drop] at c11 ⊢; simp; omega) | (simp only [List.length_append, List.length_cons, List.length_nil, List.length_take, List.length_drop] at c11; simp; omega) | (simp_all; done)) ?_
 refine br_t (by first | (simp [c12]; done) | (simp; omega) | (simp only [List.length_append, List.length_cons, List.length_nil, List.length_take, List.length_drop] at c11 ⊢; simp; omega) | (simp only [List.length_append, List.length_cons, List.length_nil, List.length_take, List.length_drop] at c11; simp; omega) | (simp_all; done)) ?_
 refine br_g h rfl (fun c13 h => ?_)
 refine br_etn h rfl (fun c14 h => ?_) (fun c14 h => ?_)
 ·cases h; exact hk
 exact (ih N (by omega)) _ _ _ _ _ h hk
theorem okc_31 (args : List (AV tau)) (m : Mem tau) (κ : AV tau → Mem tau → Option Unit) (hh : c_31 args m κ = some ()) : ∃ av m1, κ av m1 = some () ∧ ToldA Try.prog TT (pnT 31) 31 args m av m1 := by
 obtain ⟨bx_, rw_⟩ := m
 unfold c_31 at hh
 simp only at hh
 split at hh
 case h_2 => cases hh
 rename_i b0 b1
 obtain ⟨l0, hx0, hh0⟩ := bO_some hh
 obtain ⟨l1, hx1, hh1⟩ := bO_some hh0
 have ex0 := asSl_some hx0
 have ex1 := asSl_some hx1
 subst ex0 ex1
 obtain ⟨N, t, h, hκ⟩ := callX_some hh1
 refine ⟨_, _, hκ, told_of_run pq okC_31 (fun _ _ _ => drawA_ok pq okC_31 hmix) (E := E_31) (fn := Try.f31) (body := B_31) (by kernel_rfl) (by kernel_rfl) (by kernel_rfl) (by rfl) (by exact Nat.le_of_ble_eq_true rfl) (fun k hk => ?_)⟩
 refine (w_31 l0 l1 k).trans ?_
 replace h : laws_eqIntS.f N l0 l1 = some t := h
 unfold laws_eqIntS.f at h
 refine br_etn h rfl (fun c15 h => ?_) (fun c15 h => ?_)
 ·cases h; exact hk
 exact (L_31 N) _ _ _ _ _ h hk
noncomputable def C_148 : Ctr tau Unit := ctrS 31 c_31 C_31
noncomputable def D_148 : Drw tau := drawA E_148 C_148
theorem okC_148 : CtrOk Try.prog TT pnT C_148 := ctrS_ok okC_31 okc_31
theorem mC_148 : CtrMono C_148 := ctrS_mono mC_31 mc_31
theorem mD_148 : DrMono D_148 := drawA_mono mC_148
noncomputable def B_148 : Code := Try.f148.body.getD .skip
theorem mc_148 (args : List (AV tau)) (m : Mem tau) (k k' : AV tau → Mem tau → Option Unit) (hk : ∀ av m, k av m = some () → k' av m = some ()) (h : c_148 args m k = some ()) : c_148 args m k' = some () := by
 unfold c_148 at h ⊢
 split at h
 · repeat' first | exact callX_mono (fun _ h => hk _ _ h) h | refine bO_mono (fun _ h => ?_) h
 · cases h
theorem w_148 (a0_0 : Int) (a0_1 : Int) (a0_2 : Int) (a0_3 : Int) (a1_0 : Int) (a1_1 : Int) (a1_2 : Int) (a1_3 : Int) (k : AV tau → Mem tau → Option Unit) : fnA E_148 C_148 D_148 Try.f148 B_148 [.agg [.int .i64 a0_0, .int .i64 a0_1, .int .i64 a0_2, .int .i64 a0_3], .agg [.int .i64 a1_0, .int .i64 a1_1, .int .i64 a1_2, .int .i64 a1_3]] ⟨[], []⟩ k = (brA (!(decide (a0_0 = a1_0))) (k (.bool false) ⟨[], []⟩) (brA (!(decide (a0_1 = a1_1))) (k (.bool false) ⟨[], []⟩) (brA (!(decide (a0_2 = a1_2))) (k (.bool false) ⟨[], []⟩) (brA (!(decide (a0_3 = a1_3))) (k (.bool false) ⟨[], []⟩) (k (.bool true) ⟨[], []⟩)))) : Option Unit) := by kernel_rfl
theorem okc_148 (args : List (AV tau)) (m : Mem tau) (κ : AV tau → Mem tau → Option Unit) (hh : c_148 args m κ = some ()) : ∃ av m1, κ av m1 = some () ∧ ToldA Try.prog TT (pnT 148) 148 args m av m1 := by
 obtain ⟨bx_, rw_⟩ := m
 unfold c_148 at hh
 simp only at hh
 split at hh
 case h_2 => cases hh
 rename_i b0 b1 b2 b3 b4 b5 b6 b7
 obtain ⟨a0_0, hx0, hh0⟩ := bO_some hh
 obtain ⟨a0_1, hx1, hh1⟩ := bO_some hh0
 obtain ⟨a0_2, hx2, hh2⟩ := bO_some hh1
 obtain ⟨a0_3, hx3, hh3⟩ := bO_some hh2
 obtain ⟨a1_0, hx4, hh4⟩ := bO_some hh3
 obtain ⟨a1_1, hx5, hh5⟩ := bO_some hh4
 obtain ⟨a1_2, hx6, hh6⟩ := bO_some hh5
 obtain ⟨a1_3, hx7, hh7⟩ := bO_some hh6
 have ex0 := asI_some hx0
 have ex1 := asI_some hx1
 have ex2 := asI_some hx2
 have ex3 := asI_some hx3
 have ex4 := asI_some hx4
 have ex5 := asI_some hx5
 have ex6 := asI_some hx6
 have ex7 := asI_some hx7
 subst ex0 ex1 ex2 ex3 ex4 ex5 ex6 ex7
 obtain ⟨N, t, h, hκ⟩ := callX_some hh7
 refine ⟨_, _, hκ, told_of_run pq okC_148 (fun _ _ _ => drawA_ok pq okC_148 hmix) (E := E_148) (fn := Try.f148) (body := B_148) (by kernel_rfl) (by kernel_rfl) (by kernel_rfl) (by rfl) (by exact Nat.le_of_ble_eq_true rfl) (fun k hk => ?_)⟩
 refine (w_148 a0_0 a0_1 a0_2 a0_3 a1_0 a1_1 a1_2 a1_3 k).trans ?_
 replace h : laws_eqIns.f a0_0 a0_1 a0_2 a0_3 a1_0 a1_1 a1_2 a1_3 = some t := h
 unfold laws_eqIns.f at h
 refine br_etn h rfl (fun c5 h => ?_) (fun c5 h => ?_)
 ·cases h; exact hk
 refine br_etn h rfl (fun c6 h => ?_) (fun c6 h => ?_)
 ·cases h; exact hk
 refine br_etn h rfl (fun c7 h => ?_) (fun c7 h => ?_)
 ·cases h; exact hk
 refine br_itn h rfl (fun c8 h => ?_) (fun c8 h => ?_)
 ·cases h; exact hk
 cases h; exact hk
noncomputable def C_96 : Ctr tau Unit := ctrS 148 c_148 C_148
noncomputable def D_96 : Drw tau := drawA E_96 C_96
theorem okC_96 : CtrOk Try.prog TT pnT C_96 := ctrS_ok okC_148 okc_148
theorem mC_96 : CtrMono C_96 := ctrS_mono mC_148 mc_148
theorem mD_96 : DrMono D_96 := drawA_mono mC_96
noncomputable def B_96 : Code := Try.f96.body.getD .skip
theorem mc_96 (args : List (AV tau)) (m : Mem tau) (k k' : AV tau → Mem tau → Option Unit) (hk : ∀ av m, k av m = some () → k' av m = some ()) (h : c_96 args m k = some ()) : c_96 args m k' = some () := by
 unfold c_96 at h ⊢
 split at h
 · repeat' first | exact callX_mono (fun _ h => hk _ _ h) h | refine bO_mono (fun _ h => ?_) h
 · cases h
noncomputable def K_96_0 (k : AV tau → Mem tau → Option Unit) : Kon tau := (kBlock 0 (kS E_96 C_96 D_96 (codeP B_96 [1, 1, 1]) (kEnd E_96 Try.f96 k)))
def st_96_0 (x0 : (List S95)) (x1 : (List S95)) (x2 : Int) : St tau := ⟨tmL 27 0 [(0, .sl 95 x0), (1, .sl 95 x1), (5, .int .i64 x2)], ⟨[], []⟩⟩
noncomputable def LP_96_0 (k : AV tau → Mem tau → Option Unit) (x0 : (List S95)) (x1 : (List S95)) (x2 : Int) : Option Unit := loopA E_96 (codeA E_96 C_96 D_96 (codeP B_96 [1, 1, 0, 1, 0, 0])) (codeP B_96 [1, 1, 0, 1, 0, 0]) (K_96_0 k) (st_96_0 x0 x1 x2)
theorem w_96_0 (k : AV tau → Mem tau → Option Unit) (x0 : (List S95)) (x1 : (List S95)) (x2 : Int) : codeA E_96 C_96 D_96 (codeP B_96 [1, 1, 0, 1, 0, 0]) (kL E_96 C_96 D_96 (codeP B_96 [1, 1, 0, 1, 0, 0]) (K_96_0 k)) (st_96_0 x0 x1 x2) = (brA (decide (x2 < ((x0.length : Nat) : Int))) (brA (decide ((0 : Int) ≤ x2)) (brA (decide (x2 < ((x0.length : Nat) : Int))) (brA (decide ((0 : Int) ≤ x2)) (brA (decide (x2 < ((x1.length : Nat) : Int))) (callX (fun n => laws_eqIns.f ((rd_T95 x0 x2).f0) ((rd_T95 x0 x2).f1) ((rd_T95 x0 x2).f2) ((rd_T95 x0 x2).f3) ((rd_T95 x1 x2).f0) ((rd_T95 x1 x2).f1) ((rd_T95 x1 x2).f2) ((rd_T95 x1 x2).f3)) fun t0 => brA (!t0) (k (.bool false) ⟨[], []⟩) (LP_96_0 k x0 x1 (wrap64 (x2 + (1 : Int))))) (none)) (none)) (none)) (none)) (k (.bool true) ⟨[], []⟩) : Option Unit) := by
 simp only [← wrapA_i64]
 kernel_rfl
theorem w_96 (l0 : List S95) (l1 : List S95) (k : AV tau → Mem tau → Option Unit) : fnA E_96 C_96 D_96 Try.f96 B_96 [.sl 95 l0, .sl 95 l1] ⟨[], []⟩ k = (brA (!(decide (((l0.length : Nat) : Int) = ((l1.length : Nat) : Int)))) (k (.bool false) ⟨[], []⟩) (LP_96_0 k l0 l1 (0 : Int)) : Option Unit) := by kernel_rfl
def S_96_0 (N : Nat) : Prop := ∀ (k : AV tau → Mem tau → Option Unit) (x0 : (List S95)) (x1 : (List S95)) (x2 : Int) (r : Bool), laws_eqInsS.l0 N (x0) (x1) (x2) = some r → k (.bool (r)) ⟨[], []⟩ = some () → LP_96_0 k x0 x1 x2 = some ()
theorem L_96 (N : Nat) : S_96_0 N := by
 induction N using Nat.strongRecOn with | _ N0 ih =>
 skip
 intro k x0 x1 x2 r h hk
 rcases N0 with _ | N
 · cases h
 first | rw [laws_eqInsS.l0] at h | simp only [laws_eqInsS.l0] at h | (unfold laws_eqInsS.l0 at h; dsimp only at h)
 refine loop_fold mC_96 mD_96 ?_
 refine (w_96_0 k x0 x1 x2).trans ?_
 refine br_eti h rfl (fun c13 h => ?_) (fun c13 h => ?_)
 ·cases h; exact hk
 refine br_g h rfl (fun c14 h => ?_)
 refine br_t (by first | (simp [c13]; done) | (simp; omega) | (simp only [List.length_append, List.length_cons, List.length_nil, List.length_take, List.length_drop] at c13 ⊢; simp; omega) | (simp only [List.length_append, List.length_cons, List.length_nil, List.length_take, List.length_drop] at c13; simp; omega) | (simp_all; done)) ?_
 refine br_t (by first | (simp [c14]; done) | (simp; omega) | (simp only [List.length_append, List.length_cons, List.length_nil, List.length_take, List.length_drop] at c13 ⊢; simp; omega) | (simp only [List.length_append, List.length_cons, List.length_nil, List.length_take, List.length_drop] at c13; simp; omega) | (simp_all; done)) ?_
 refine br_g h rfl (fun c15 h => ?_)
 refine call_h 0 h (fun t0 e16 h => ?_)
 refine br_etn h (congrArg not dect) (fun c17 h => ?_) (fun c17 h => ?_)
 ·cases h; exact hk
 exact (ih N (by omega)) _ _ _ _ _ h hk
theorem okc_96 (args : List (AV tau)) (m : Mem tau) (κ : AV tau → Mem tau → Option Unit) (hh : c_96 args m κ = some ()) : ∃ av m1, κ av m1 = some () ∧ ToldA Try.prog TT (pnT 96) 96 args m av m1 := by
 obtain ⟨bx_, rw_⟩ := m
 unfold c_96 at hh
 simp only at hh
 split at hh
 case h_2 => cases hh
 rename_i b0 b1
 obtain ⟨l0, hx0, hh0⟩ := bO_some hh
 obtain ⟨l1, hx1, hh1⟩ := bO_some hh0
 have ex0 := asSl_some hx0
 have ex1 := asSl_some hx1
 subst ex0 ex1
 obtain ⟨N, t, h, hκ⟩ := callX_some hh1
 refine ⟨_, _, hκ, told_of_run pq okC_96 (fun _ _ _ => drawA_ok pq okC_96 hmix) (E := E_96) (fn := Try.f96) (body := B_96) (by kernel_rfl) (by kernel_rfl) (by kernel_rfl) (by rfl) (by exact Nat.le_of_ble_eq_true rfl) (fun k hk => ?_)⟩
 refine (w_96 l0 l1 k).trans ?_
 replace h : laws_eqInsS.f N l0 l1 = some t := h
 unfold laws_eqInsS.f at h
 refine br_etn h rfl (fun c18 h => ?_) (fun c18 h => ?_)
 ·cases h; exact hk
 exact (L_96 N) _ _ _ _ _ h hk
noncomputable def C_32 : Ctr tau Unit := ctrS 96 c_96 C_96
noncomputable def D_32 : Drw tau := drawA E_32 C_32
theorem okC_32 : CtrOk Try.prog TT pnT C_32 := ctrS_ok okC_96 okc_96
theorem mC_32 : CtrMono C_32 := ctrS_mono mC_96 mc_96
theorem mD_32 : DrMono D_32 := drawA_mono mC_32
noncomputable def B_32 : Code := Try.f32.body.getD .skip
theorem mc_32 (args : List (AV tau)) (m : Mem tau) (k k' : AV tau → Mem tau → Option Unit) (hk : ∀ av m, k av m = some () → k' av m = some ()) (h : c_32 args m k = some ()) : c_32 args m k' = some () := by
 unfold c_32 at h ⊢
 split at h
 · repeat' first | exact callX_mono (fun _ h => hk _ _ h) h | refine bO_mono (fun _ h => ?_) h
 · cases h
noncomputable def K_32_0 (k : AV tau → Mem tau → Option Unit) : Kon tau := (kBlock 0 (kS E_32 C_32 D_32 (codeP B_32 [1, 1, 1]) (kEnd E_32 Try.f32 k)))
def st_32_0 (x0 : (List (List S95))) (x1 : (List (List S95))) (x2 : Int) : St tau := ⟨tmL 27 0 [(0, .sl 60 x0), (1, .sl 60 x1), (5, .int .i64 x2)], ⟨[], []⟩⟩
noncomputable def LP_32_0 (k : AV tau → Mem tau → Option Unit) (x0 : (List (List S95))) (x1 : (List (List S95))) (x2 : Int) : Option Unit := loopA E_32 (codeA E_32 C_32 D_32 (codeP B_32 [1, 1, 0, 1, 0, 0])) (codeP B_32 [1, 1, 0, 1, 0, 0]) (K_32_0 k) (st_32_0 x0 x1 x2)
theorem w_32_0 (k : AV tau → Mem tau → Option Unit) (x0 : (List (List S95))) (x1 : (List (List S95))) (x2 : Int) : codeA E_32 C_32 D_32 (codeP B_32 [1, 1, 0, 1, 0, 0]) (kL E_32 C_32 D_32 (codeP B_32 [1, 1, 0, 1, 0, 0]) (K_32_0 k)) (st_32_0 x0 x1 x2) = (brA (decide (x2 < ((x0.length : Nat) : Int))) (brA (decide ((0 : Int) ≤ x2)) (brA (decide (x2 < ((x0.length : Nat) : Int))) (brA (decide ((0 : Int) ≤ x2)) (brA (decide (x2 < ((x1.length : Nat) : Int))) (callX (fun n => laws_eqInsS.f n (List.getD x0 (Int.toNat x2) []) (List.getD x1 (Int.toNat x2) [])) fun t0 => brA (!t0) (k (.bool false) ⟨[], []⟩) (LP_32_0 k x0 x1 (wrap64 (x2 + (1 : Int))))) (none)) (none)) (none)) (none)) (k (.bool true) ⟨[], []⟩) : Option Unit) := by
 simp only [← wrapA_i64]
 kernel_rfl
theorem w_32 (l0 : List (List S95)) (l1 : List (List S95)) (k : AV tau → Mem tau → Option Unit) : fnA E_32 C_32 D_32 Try.f32 B_32 [.sl 60 l0, .sl 60 l1] ⟨[], []⟩ k = (brA (!(decide (((l0.length : Nat) : Int) = ((l1.length : Nat) : Int)))) (k (.bool false) ⟨[], []⟩) (LP_32_0 k l0 l1 (0 : Int)) : Option Unit) := by kernel_rfl
def S_32_0 (N : Nat) : Prop := ∀ (k : AV tau → Mem tau → Option Unit) (x0 : (List (List S95))) (x1 : (List (List S95))) (x2 : Int) (r : Bool), laws_eqInsSS.l0 N (x0) (x1) (x2) = some r → k (.bool (r)) ⟨[], []⟩ = some () → LP_32_0 k x0 x1 x2 = some ()
theorem L_32 (N : Nat) : S_32_0 N := by
 induction N using Nat.strongRecOn with | _ N0 ih =>
 skip
 intro k x0 x1 x2 r h hk
 rcases N0 with _ | N
 · cases h
 first | rw [laws_eqInsSS.l0] at h | simp only [laws_eqInsSS.l0] at h | (unfold laws_eqInsSS.l0 at h; dsimp only at h)
 refine loop_fold mC_32 mD_32 ?_
 refine (w_32_0 k x0 x1 x2).trans ?_
 refine br_eti h rfl (fun c13 h => ?_) (fun c13 h => ?_)
 ·cases h; exact hk
 refine br_g h rfl (fun c14 h => ?_)
 refine br_t (by first | (simp [c13]; done) | (simp; omega) | (simp only [List.length_append, List.length_cons, List.length_nil, List.length_take, List.length_drop] at c13 ⊢; simp; omega) | (simp only [List.length_append, List.length_cons, List.length_nil, List.length_take, List.length_drop] at c13; simp; omega) | (simp_all; done)) ?_
 refine br_t (by first | (simp [c14]; done) | (simp; omega) | (simp only [List.length_append, List.length_cons, List.length_nil, List.length_take, List.length_drop] at c13 ⊢; simp; omega) | (simp only [List.length_append, List.length_cons, List.length_nil, List.length_take, List.length_drop] at c13; simp; omega) | (simp_all; done)) ?_
 refine br_g h rfl (fun c15 h => ?_)
 refine call_h N h (fun t0 e16 h => ?_)
 refine br_etn h (congrArg not dect) (fun c17 h => ?_) (fun c17 h => ?_)
 ·cases h; exact hk
 exact (ih N (by omega)) _ _ _ _ _ h hk
theorem okc_32 (args : List (AV tau)) (m : Mem tau) (κ : AV tau → Mem tau → Option Unit) (hh : c_32 args m κ = some ()) : ∃ av m1, κ av m1 = some () ∧ ToldA Try.prog TT (pnT 32) 32 args m av m1 := by
 obtain ⟨bx_, rw_⟩ := m
 unfold c_32 at hh
 simp only at hh
 split at hh
 case h_2 => cases hh
 rename_i b0 b1
 obtain ⟨l0, hx0, hh0⟩ := bO_some hh
 obtain ⟨l1, hx1, hh1⟩ := bO_some hh0
 have ex0 := asSl_some hx0
 have ex1 := asSl_some hx1
 subst ex0 ex1
 obtain ⟨N, t, h, hκ⟩ := callX_some hh1
 refine ⟨_, _, hκ, told_of_run pq okC_32 (fun _ _ _ => drawA_ok pq okC_32 hmix) (E := E_32) (fn := Try.f32) (body := B_32) (by kernel_rfl) (by kernel_rfl) (by kernel_rfl) (by rfl) (by exact Nat.le_of_ble_eq_true rfl) (fun k hk => ?_)⟩
 refine (w_32 l0 l1 k).trans ?_
 replace h : laws_eqInsSS.f N l0 l1 = some t := h
 unfold laws_eqInsSS.f at h
 refine br_etn h rfl (fun c18 h => ?_) (fun c18 h => ?_)
 ·cases h; exact hk
 exact (L_32 N) _ _ _ _ _ h hk
noncomputable def C_33 : Ctr tau Unit := ctrS 32 c_32 C_32
noncomputable def D_33 : Drw tau := drawA E_33 C_33
theorem okC_33 : CtrOk Try.prog TT pnT C_33 := ctrS_ok okC_32 okc_32
theorem mC_33 : CtrMono C_33 := ctrS_mono mC_32 mc_32
theorem mD_33 : DrMono D_33 := drawA_mono mC_33
noncomputable def B_33 : Code := Try.f33.body.getD .skip
theorem mc_33 (args : List (AV tau)) (m : Mem tau) (k k' : AV tau → Mem tau → Option Unit) (hk : ∀ av m, k av m = some () → k' av m = some ()) (h : c_33 args m k = some ()) : c_33 args m k' = some () := by
 unfold c_33 at h ⊢
 split at h
 · repeat' first | exact callX_mono (fun _ h => hk _ _ h) h | refine bO_mono (fun _ h => ?_) h
 · cases h
noncomputable def K_33_0 (k : AV tau → Mem tau → Option Unit) : Kon tau := (kBlock 0 (kS E_33 C_33 D_33 (codeP B_33 [1, 1]) (kEnd E_33 Try.f33 k)))
def st_33_0 (x0 : Int) (x1 : Int) (x2 : (List S37)) : St tau := ⟨tmL 27 0 [(0, .own 0 0), (1, .int .i64 x0), (5, .int .i64 x1)], ⟨[], [some ⟨37, x2, 0⟩]⟩⟩
noncomputable def LP_33_0 (k : AV tau → Mem tau → Option Unit) (x0 : Int) (x1 : Int) (x2 : (List S37)) : Option Unit := loopA E_33 (codeA E_33 C_33 D_33 (codeP B_33 [1, 0, 1, 0, 0])) (codeP B_33 [1, 0, 1, 0, 0]) (K_33_0 k) (st_33_0 x0 x1 x2)
theorem w_33_0 (k : AV tau → Mem tau → Option Unit) (x0 : Int) (x1 : Int) (x2 : (List S37)) : codeA E_33 C_33 D_33 (codeP B_33 [1, 0, 1, 0, 0]) (kL E_33 C_33 D_33 (codeP B_33 [1, 0, 1, 0, 0]) (K_33_0 k)) (st_33_0 x0 x1 x2) = (brA (decide (x1 < ((x2.length : Nat) : Int))) (brA (decide ((0 : Int) ≤ x1)) (brA (decide (x1 < ((x2.length : Nat) : Int))) (brA (decide ((0 : Int) ≤ x1)) (brA (decide (x1 < (((List.set x2 (Int.toNat x1) (⟨x0, (rd_T37 x2 x1).f1⟩ : S37)).length : Nat) : Int))) (LP_33_0 k (wrap64 ((wrap64 (x0 + (1 : Int))) + (1 : Int))) (wrap64 (x1 + (1 : Int))) (List.set (List.set x2 (Int.toNat x1) (⟨x0, (rd_T37 x2 x1).f1⟩ : S37)) (Int.toNat x1) (⟨(rd_T37 (List.set x2 (Int.toNat x1) (⟨x0, (rd_T37 x2 x1).f1⟩ : S37)) x1).f0, (wrap64 (x0 + (1 : Int)))⟩ : S37))) (none)) (none)) (none)) (none)) (k (.int .i64 x0) ⟨[], [some ⟨37, x2, 0⟩]⟩) : Option Unit) := by
 simp only [← wrapA_i64]
 kernel_rfl
theorem w_33 (l0 : List S37) (a1 : Int) (k : AV tau → Mem tau → Option Unit) : fnA E_33 C_33 D_33 Try.f33 B_33 [.own 0 0, .int .i64 a1] ⟨[], [some ⟨37, l0, 0⟩]⟩ k = (LP_33_0 k a1 (0 : Int) l0 : Option Unit) := by kernel_rfl
def S_33_0 (N : Nat) : Prop := ∀ (k : AV tau → Mem tau → Option Unit) (x0 : Int) (x1 : Int) (x2 : (List S37)) (r : Int × (List (S37))), laws_markBoxS.l0 N (x2) (x0) (x1) = some r → k (.int .i64 (r.1)) ⟨[], [some ⟨37, r.2, 0⟩]⟩ = some () → LP_33_0 k x0 x1 x2 = some ()
theorem L_33 (N : Nat) : S_33_0 N := by
 induction N using Nat.strongRecOn with | _ N0 ih =>
 skip
 intro k x0 x1 x2 r h hk
 rcases N0 with _ | N
 · cases h
 first | rw [laws_markBoxS.l0] at h | simp only [laws_markBoxS.l0] at h | (unfold laws_markBoxS.l0 at h; dsimp only at h)
 refine loop_fold mC_33 mD_33 ?_
 refine (w_33_0 k x0 x1 x2).trans ?_
 refine br_eti h rfl (fun c5 h => ?_) (fun c5 h => ?_)
 ·cases h; exact hk
 refine br_g h rfl (fun c6 h => ?_)
 replace h := let_h h
 refine br_t (by first | (simp [c5]; done) | (simp; omega) | (simp only [List.length_append, List.length_cons, List.length_nil, List.length_take, List.length_drop] at c5 ⊢; simp; omega) | (simp only [List.length_append, List.length_cons, List.length_nil, List.length_take, List.length_drop] at c5; simp; omega) | (simp_all; done)) ?_
 refine br_t (by first | (simp [c6]; done) | (simp; omega) | (simp only [List.length_append, List.length_cons, List.length_nil, List.length_take, List.length_drop] at c5 ⊢; simp; omega) | (simp only [List.length_append, List.length_cons, List.length_nil, List.length_take, List.length_drop] at c5; simp; omega) | (simp_all; done)) ?_
 refine br_t (by first | (simp; omega) | (simp only [List.length_append, List.length_cons, List.length_nil, List.length_take, List.length_drop] at c5 ⊢; simp; omega) | (simp only [List.length_append, List.length_cons, List.length_nil, List.length_take, List.length_drop] at c5; simp; omega)) ?_
 exact (ih N (by omega)) _ _ _ _ _ h hk
theorem okc_33 (args : List (AV tau)) (m : Mem tau) (κ : AV tau → Mem tau → Option Unit) (hh : c_33 args m κ = some ()) : ∃ av m1, κ av m1 = some () ∧ ToldA Try.prog TT (pnT 33) 33 args m av m1 := by
 obtain ⟨bx_, rw_⟩ := m
 unfold c_33 at hh
 simp only at hh
 split at hh
 case h_2 => cases hh
 rename_i b0 b1 r0
 obtain ⟨u7, hx0, hh0⟩ := bO_some hh
 obtain ⟨l0, hx1, hh1⟩ := bO_some hh0
 obtain ⟨a1, hx2, hh2⟩ := bO_some hh1
 have ex0 := asOwn_some hx0
 have ex1 := asRow_some hx1
 have ex2 := asI_some hx2
 subst ex0 ex1 ex2
 obtain ⟨N, t, h, hκ⟩ := callX_some hh2
 refine ⟨_, _, hκ, told_of_run pq okC_33 (fun _ _ _ => drawA_ok pq okC_33 hmix) (E := E_33) (fn := Try.f33) (body := B_33) (by kernel_rfl) (by kernel_rfl) (by kernel_rfl) (by rfl) (by exact Nat.le_of_ble_eq_true rfl) (fun k hk => ?_)⟩
 refine (w_33 l0 a1 k).trans ?_
 replace h : laws_markBoxS.f N l0 a1 = some t := h
 unfold laws_markBoxS.f at h
 exact (L_33 N) _ _ _ _ _ h hk
noncomputable def C_97 : Ctr tau Unit := ctrS 33 c_33 C_33
noncomputable def D_97 : Drw tau := drawA E_97 C_97
theorem okC_97 : CtrOk Try.prog TT pnT C_97 := ctrS_ok okC_33 okc_33
theorem mC_97 : CtrMono C_97 := ctrS_mono mC_33 mc_33
theorem mD_97 : DrMono D_97 := drawA_mono mC_97
noncomputable def B_97 : Code := Try.f97.body.getD .skip
theorem mc_97 (args : List (AV tau)) (m : Mem tau) (k k' : AV tau → Mem tau → Option Unit) (hk : ∀ av m, k av m = some () → k' av m = some ()) (h : c_97 args m k = some ()) : c_97 args m k' = some () := by
 unfold c_97 at h ⊢
 split at h
 · repeat' first | exact callX_mono (fun _ h => hk _ _ h) h | refine bO_mono (fun _ h => ?_) h
 · cases h
noncomputable def K_97_0 (k : AV tau → Mem tau → Option Unit) : Kon tau := (kBlock 0 (kS E_97 C_97 D_97 (codeP B_97 [1, 1]) (kEnd E_97 Try.f97 k)))
def st_97_0 (x0 : Int) (x1 : Int) (x2 : (List S95)) : St tau := ⟨tmL 41 0 [(0, .own 0 0), (1, .int .i64 x0), (5, .int .i64 x1)], ⟨[], [some ⟨95, x2, 0⟩]⟩⟩
noncomputable def LP_97_0 (k : AV tau → Mem tau → Option Unit) (x0 : Int) (x1 : Int) (x2 : (List S95)) : Option Unit := loopA E_97 (codeA E_97 C_97 D_97 (codeP B_97 [1, 0, 1, 0, 0])) (codeP B_97 [1, 0, 1, 0, 0]) (K_97_0 k) (st_97_0 x0 x1 x2)
theorem w_97_0 (k : AV tau → Mem tau → Option Unit) (x0 : Int) (x1 : Int) (x2 : (List S95)) : codeA E_97 C_97 D_97 (codeP B_97 [1, 0, 1, 0, 0]) (kL E_97 C_97 D_97 (codeP B_97 [1, 0, 1, 0, 0]) (K_97_0 k)) (st_97_0 x0 x1 x2) = (brA (decide (x1 < ((x2.length : Nat) : Int))) (brA (decide ((0 : Int) ≤ x1)) (brA (decide (x1 < ((x2.length : Nat) : Int))) (brA (decide ((0 : Int) ≤ x1)) (brA (decide (x1 < (((List.set x2 (Int.toNat x1) (⟨x0, (rd_T95 x2 x1).f1, (rd_T95 x2 x1).f2, (rd_T95 x2 x1).f3⟩ : S95)).length : Nat) : Int))) (brA (decide ((0 : Int) ≤ x1)) (brA (decide (x1 < (((List.set (List.set x2 (Int.toNat x1) (⟨x0, (rd_T95 x2 x1).f1, (rd_T95 x2 x1).f2, (rd_T95 x2 x1).f3⟩ : S95)) (Int.toNat x1) (⟨(rd_T95 (List.set x2 (Int.toNat x1) (⟨x0, (rd_T95 x2 x1).f1, (rd_T95 x2 x1).f2, (rd_T95 x2 x1).f3⟩ : S95)) x1).f0, (wrap64 (x0 + (1 : Int))), (rd_T95 (List.set x2 (Int.toNat x1) (⟨x0, (rd_T95 x2 x1).f1, (rd_T95 x2 x1).f2, (rd_T95 x2 x1).f3⟩ : S95)) x1).f2, (rd_T95 (List.set x2 (Int.toNat x1) (⟨x0, (rd_T95 x2 x1).f1, (rd_T95 x2 x1).f2, (rd_T95 x2 x1).f3⟩ : S95)) x1).f3⟩ : S95)).length : Nat) : Int))) (brA (decide ((0 : Int) ≤ x1)) (brA (decide (x1 < (((List.set (List.set (List.set x2 (Int.toNat x1) (⟨x0, (rd_T95 x2 x1).f1, (rd_T95 x2 x1).f2, (rd_T95 x2 x1).f3⟩ : S95)) (Int.toNat x1) (⟨(rd_T95 (List.set x2 (Int.toNat x1) (⟨x0, (rd_T95 x2 x1).f1, (rd_T95 x2 x1).f2, (rd_T95 x2 x1).f3⟩ : S95)) x1).f0, (wrap64 (x0 + (1 : Int))), (rd_T95 (List.set x2 (Int.toNat x1) (⟨x0, (rd_T95 x2 x1).f1, (rd_T95 x2 x1).f2, (rd_T95 x2 x1).f3⟩ : S95)) x1).f2, (rd_T95 (List.set x2 (Int.toNat x1) (⟨x0, (rd_T95 x2 x1).f1, (rd_T95 x2 x1).f2, (rd_T95 x2 x1).f3⟩ : S95)) x1).f3⟩ : S95)) (Int.toNat x1) (⟨(rd_T95 (List.set (List.set x2 (Int.toNat x1) (⟨x0, (rd_T95 x2 x1).f1, (rd_T95 x2 x1).f2, (rd_T95 x2 x1).f3⟩ : S95)) (Int.toNat x1) (⟨(rd_T95 (List.set x2 (Int.toNat x1) (⟨x0, (rd_T95 x2 x1).f1, (rd_T95 x2 x1).f2, (rd_T95 x2 x1).f3⟩ : S95)) x1).f0, (wrap64 (x0 + (1 : Int))), (rd_T95 (List.set x2 (Int.toNat x1) (⟨x0, (rd_T95 x2 x1).f1, (rd_T95 x2 x1).f2, (rd_T95 x2 x1).f3⟩ : S95)) x1).f2, (rd_T95 (List.set x2 (Int.toNat x1) (⟨x0, (rd_T95 x2 x1).f1, (rd_T95 x2 x1).f2, (rd_T95 x2 x1).f3⟩ : S95)) x1).f3⟩ : S95)) x1).f0, (rd_T95 (List.set (List.set x2 (Int.toNat x1) (⟨x0, (rd_T95 x2 x1).f1, (rd_T95 x2 x1).f2, (rd_T95 x2 x1).f3⟩ : S95)) (Int.toNat x1) (⟨(rd_T95 (List.set x2 (Int.toNat x1) (⟨x0, (rd_T95 x2 x1).f1, (rd_T95 x2 x1).f2, (rd_T95 x2 x1).f3⟩ : S95)) x1).f0, (wrap64 (x0 + (1 : Int))), (rd_T95 (List.set x2 (Int.toNat x1) (⟨x0, (rd_T95 x2 x1).f1, (rd_T95 x2 x1).f2, (rd_T95 x2 x1).f3⟩ : S95)) x1).f2, (rd_T95 (List.set x2 (Int.toNat x1) (⟨x0, (rd_T95 x2 x1).f1, (rd_T95 x2 x1).f2, (rd_T95 x2 x1).f3⟩ : S95)) x1).f3⟩ : S95)) x1).f1, (wrap64 ((wrap64 (x0 + (1 : Int))) + (1 : Int))), (rd_T95 (List.set (List.set x2 (Int.toNat x1) (⟨x0, (rd_T95 x2 x1).f1, (rd_T95 x2 x1).f2, (rd_T95 x2 x1).f3⟩ : S95)) (Int.toNat x1) (⟨(rd_T95 (List.set x2 (Int.toNat x1) (⟨x0, (rd_T95 x2 x1).f1, (rd_T95 x2 x1).f2, (rd_T95 x2 x1).f3⟩ : S95)) x1).f0, (wrap64 (x0 + (1 : Int))), (rd_T95 (List.set x2 (Int.toNat x1) (⟨x0, (rd_T95 x2 x1).f1, (rd_T95 x2 x1).f2, (rd_T95 x2 x1).f3⟩ : S95)) x1).f2, (rd_T95 (List.set x2 (Int.toNat x1) (⟨x0, (rd_T95 x2 x1).f1, (rd_T95 x2 x1).f2, (rd_T95 x2 x1).f3⟩ : S95)) x1).f3⟩ : S95)) x1).f3⟩ : S95)).length : Nat) : Int))) (LP_97_0 k (wrap64 ((wrap64 ((wrap64 ((wrap64 (x0 + (1 : Int))) + (1 : Int))) + (1 : Int))) + (1 : Int))) (wrap64 (x1 + (1 : Int))) (List.set (List.set (List.set (List.set x2 (Int.toNat x1) (⟨x0, (rd_T95 x2 x1).f1, (rd_T95 x2 x1).f2, (rd_T95 x2 x1).f3⟩ : S95)) (Int.toNat x1) (⟨(rd_T95 (List.set x2 (Int.toNat x1) (⟨x0, (rd_T95 x2 x1).f1, (rd_T95 x2 x1).f2, (rd_T95 x2 x1).f3⟩ : S95)) x1).f0, (wrap64 (x0 + (1 : Int))), (rd_T95 (List.set x2 (Int.toNat x1) (⟨x0, (rd_T95 x2 x1).f1, (rd_T95 x2 x1).f2, (rd_T95 x2 x1).f3⟩ : S95)) x1).f2, (rd_T95 (List.set x2 (Int.toNat x1) (⟨x0, (rd_T95 x2 x1).f1, (rd_T95 x2 x1).f2, (rd_T95 x2 x1).f3⟩ : S95)) x1).f3⟩ : S95)) (Int.toNat x1) (⟨(rd_T95 (List.set (List.set x2 (Int.toNat x1) (⟨x0, (rd_T95 x2 x1).f1, (rd_T95 x2 x1).f2, (rd_T95 x2 x1).f3⟩ : S95)) (Int.toNat x1) (⟨(rd_T95 (List.set x2 (Int.toNat x1) (⟨x0, (rd_T95 x2 x1).f1, (rd_T95 x2 x1).f2, (rd_T95 x2 x1).f3⟩ : S95)) x1).f0, (wrap64 (x0 + (1 : Int))), (rd_T95 (List.set x2 (Int.toNat x1) (⟨x0, (rd_T95 x2 x1).f1, (rd_T95 x2 x1).f2, (rd_T95 x2 x1).f3⟩ : S95)) x1).f2, (rd_T95 (List.set x2 (Int.toNat x1) (⟨x0, (rd_T95 x2 x1).f1, (rd_T95 x2 x1).f2, (rd_T95 x2 x1).f3⟩ : S95)) x1).f3⟩ : S95)) x1).f0, (rd_T95 (List.set (List.set x2 (Int.toNat x1) (⟨x0, (rd_T95 x2 x1).f1, (rd_T95 x2 x1).f2, (rd_T95 x2 x1).f3⟩ : S95)) (Int.toNat x1) (⟨(rd_T95 (List.set x2 (Int.toNat x1) (⟨x0, (rd_T95 x2 x1).f1, (rd_T95 x2 x1).f2, (rd_T95 x2 x1).f3⟩ : S95)) x1).f0, (wrap64 (x0 + (1 : Int))), (rd_T95 (List.set x2 (Int.toNat x1) (⟨x0, (rd_T95 x2 x1).f1, (rd_T95 x2 x1).f2, (rd_T95 x2 x1).f3⟩ : S95)) x1).f2, (rd_T95 (List.set x2 (Int.toNat x1) (⟨x0, (rd_T95 x2 x1).f1, (rd_T95 x2 x1).f2, (rd_T95 x2 x1).f3⟩ : S95)) x1).f3⟩ : S95)) x1).f1, (wrap64 ((wrap64 (x0 + (1 : Int))) + (1 : Int))), (rd_T95 (List.set (List.set x2 (Int.toNat x1) (⟨x0, (rd_T95 x2 x1).f1, (rd_T95 x2 x1).f2, (rd_T95 x2 x1).f3⟩ : S95)) (Int.toNat x1) (⟨(rd_T95 (List.set x2 (Int.toNat x1) (⟨x0, (rd_T95 x2 x1).f1, (rd_T95 x2 x1).f2, (rd_T95 x2 x1).f3⟩ : S95)) x1).f0, (wrap64 (x0 + (1 : Int))), (rd_T95 (List.set x2 (Int.toNat x1) (⟨x0, (rd_T95 x2 x1).f1, (rd_T95 x2 x1).f2, (rd_T95 x2 x1).f3⟩ : S95)) x1).f2, (rd_T95 (List.set x2 (Int.toNat x1) (⟨x0, (rd_T95 x2 x1).f1, (rd_T95 x2 x1).f2, (rd_T95 x2 x1).f3⟩ : S95)) x1).f3⟩ : S95)) x1).f3⟩ : S95)) (Int.toNat x1) (⟨(rd_T95 (List.set (List.set (List.set x2 (Int.toNat x1) (⟨x0, (rd_T95 x2 x1).f1, (rd_T95 x2 x1).f2, (rd_T95 x2 x1).f3⟩ : S95)) (Int.toNat x1) (⟨(rd_T95 (List.set x2 (Int.toNat x1) (⟨x0, (rd_T95 x2 x1).f1, (rd_T95 x2 x1).f2, (rd_T95 x2 x1).f3⟩ : S95)) x1).f0, (wrap64 (x0 + (1 : Int))), (rd_T95 (List.set x2 (Int.toNat x1) (⟨x0, (rd_T95 x2 x1).f1, (rd_T95 x2 x1).f2, (rd_T95 x2 x1).f3⟩ : S95)) x1).f2, (rd_T95 (List.set x2 (Int.toNat x1) (⟨x0, (rd_T95 x2 x1).f1, (rd_T95 x2 x1).f2, (rd_T95 x2 x1).f3⟩ : S95)) x1).f3⟩ : S95)) (Int.toNat x1) (⟨(rd_T95 (List.set (List.set x2 (Int.toNat x1) (⟨x0, (rd_T95 x2 x1).f1, (rd_T95 x2 x1).f2, (rd_T95 x2 x1).f3⟩ : S95)) (Int.toNat x1) (⟨(rd_T95 (List.set x2 (Int.toNat x1) (⟨x0, (rd_T95 x2 x1).f1, (rd_T95 x2 x1).f2, (rd_T95 x2 x1).f3⟩ : S95)) x1).f0, (wrap64 (x0 + (1 : Int))), (rd_T95 (List.set x2 (Int.toNat x1) (⟨x0, (rd_T95 x2 x1).f1, (rd_T95 x2 x1).f2, (rd_T95 x2 x1).f3⟩ : S95)) x1).f2, (rd_T95 (List.set x2 (Int.toNat x1) (⟨x0, (rd_T95 x2 x1).f1, (rd_T95 x2 x1).f2, (rd_T95 x2 x1).f3⟩ : S95)) x1).f3⟩ : S95)) x1).f0, (rd_T95 (List.set (List.set x2 (Int.toNat x1) (⟨x0, (rd_T95 x2 x1).f1, (rd_T95 x2 x1).f2, (rd_T95 x2 x1).f3⟩ : S95)) (Int.toNat x1) (⟨(rd_T95 (List.set x2 (Int.toNat x1) (⟨x0, (rd_T95 x2 x1).f1, (rd_T95 x2 x1).f2, (rd_T95 x2 x1).f3⟩ : S95)) x1).f0, (wrap64 (x0 + (1 : Int))), (rd_T95 (List.set x2 (Int.toNat x1) (⟨x0, (rd_T95 x2 x1).f1, (rd_T95 x2 x1).f2, (rd_T95 x2 x1).f3⟩ : S95)) x1).f2, (rd_T95 (List.set x2 (Int.toNat x1) (⟨x0, (rd_T95 x2 x1).f1, (rd_T95 x2 x1).f2, (rd_T95 x2 x1).f3⟩ : S95)) x1).f3⟩ : S95)) x1).f1, (wrap64 ((wrap64 (x0 + (1 : Int))) + (1 : Int))), (rd_T95 (List.set (List.set x2 (Int.toNat x1) (⟨x0, (rd_T95 x2 x1).f1, (rd_T95 x2 x1).f2, (rd_T95 x2 x1).f3⟩ : S95)) (Int.toNat x1) (⟨(rd_T95 (List.set x2 (Int.toNat x1) (⟨x0, (rd_T95 x2 x1).f1, (rd_T95 x2 x1).f2, (rd_T95 x2 x1).f3⟩ : S95)) x1).f0, (wrap64 (x0 + (1 : Int))), (rd_T95 (List.set x2 (Int.toNat x1) (⟨x0, (rd_T95 x2 x1).f1, (rd_T95 x2 x1).f2, (rd_T95 x2 x1).f3⟩ : S95)) x1).f2, (rd_T95 (List.set x2 (Int.toNat x1) (⟨x0, (rd_T95 x2 x1).f1, (rd_T95 x2 x1).f2, (rd_T95 x2 x1).f3⟩ : S95)) x1).f3⟩ : S95)) x1).f3⟩ : S95)) x1).f0, (rd_T95 (List.set (List.set (List.set x2 (Int.toNat x1) (⟨x0, (rd_T95 x2 x1).f1, (rd_T95 x2 x1).f2, (rd_T95 x2 x1).f3⟩ : S95)) (Int.toNat x1) (⟨(rd_T95 (List.set x2 (Int.toNat x1) (⟨x0, (rd_T95 x2 x1).f1, (rd_T95 x2 x1).f2, (rd_T95 x2 x1).f3⟩ : S95)) x1).f0, (wrap64 (x0 + (1 : Int))), (rd_T95 (List.set x2 (Int.toNat x1) (⟨x0, (rd_T95 x2 x1).f1, (rd_T95 x2 x1).f2, (rd_T95 x2 x1).f3⟩ : S95)) x1).f2, (rd_T95 (List.set x2 (Int.toNat x1) (⟨x0, (rd_T95 x2 x1).f1, (rd_T95 x2 x1).f2, (rd_T95 x2 x1).f3⟩ : S95)) x1).f3⟩ : S95)) (Int.toNat x1) (⟨(rd_T95 (List.set (List.set x2 (Int.toNat x1) (⟨x0, (rd_T95 x2 x1).f1, (rd_T95 x2 x1).f2, (rd_T95 x2 x1).f3⟩ : S95)) (Int.toNat x1) (⟨(rd_T95 (List.set x2 (Int.toNat x1) (⟨x0, (rd_T95 x2 x1).f1, (rd_T95 x2 x1).f2, (rd_T95 x2 x1).f3⟩ : S95)) x1).f0, (wrap64 (x0 + (1 : Int))), (rd_T95 (List.set x2 (Int.toNat x1) (⟨x0, (rd_T95 x2 x1).f1, (rd_T95 x2 x1).f2, (rd_T95 x2 x1).f3⟩ : S95)) x1).f2, (rd_T95 (List.set x2 (Int.toNat x1) (⟨x0, (rd_T95 x2 x1).f1, (rd_T95 x2 x1).f2, (rd_T95 x2 x1).f3⟩ : S95)) x1).f3⟩ : S95)) x1).f0, (rd_T95 (List.set (List.set x2 (Int.toNat x1) (⟨x0, (rd_T95 x2 x1).f1, (rd_T95 x2 x1).f2, (rd_T95 x2 x1).f3⟩ : S95)) (Int.toNat x1) (⟨(rd_T95 (List.set x2 (Int.toNat x1) (⟨x0, (rd_T95 x2 x1).f1, (rd_T95 x2 x1).f2, (rd_T95 x2 x1).f3⟩ : S95)) x1).f0, (wrap64 (x0 + (1 : Int))), (rd_T95 (List.set x2 (Int.toNat x1) (⟨x0, (rd_T95 x2 x1).f1, (rd_T95 x2 x1).f2, (rd_T95 x2 x1).f3⟩ : S95)) x1).f2, (rd_T95 (List.set x2 (Int.toNat x1) (⟨x0, (rd_T95 x2 x1).f1, (rd_T95 x2 x1).f2, (rd_T95 x2 x1).f3⟩ : S95)) x1).f3⟩ : S95)) x1).f1, (wrap64 ((wrap64 (x0 + (1 : Int))) + (1 : Int))), (rd_T95 (List.set (List.set x2 (Int.toNat x1) (⟨x0, (rd_T95 x2 x1).f1, (rd_T95 x2 x1).f2, (rd_T95 x2 x1).f3⟩ : S95)) (Int.toNat x1) (⟨(rd_T95 (List.set x2 (Int.toNat x1) (⟨x0, (rd_T95 x2 x1).f1, (rd_T95 x2 x1).f2, (rd_T95 x2 x1).f3⟩ : S95)) x1).f0, (wrap64 (x0 + (1 : Int))), (rd_T95 (List.set x2 (Int.toNat x1) (⟨x0, (rd_T95 x2 x1).f1, (rd_T95 x2 x1).f2, (rd_T95 x2 x1).f3⟩ : S95)) x1).f2, (rd_T95 (List.set x2 (Int.toNat x1) (⟨x0, (rd_T95 x2 x1).f1, (rd_T95 x2 x1).f2, (rd_T95 x2 x1).f3⟩ : S95)) x1).f3⟩ : S95)) x1).f3⟩ : S95)) x1).f1, (rd_T95 (List.set (List.set (List.set x2 (Int.toNat x1) (⟨x0, (rd_T95 x2 x1).f1, (rd_T95 x2 x1).f2, (rd_T95 x2 x1).f3⟩ : S95)) (Int.toNat x1) (⟨(rd_T95 (List.set x2 (Int.toNat x1) (⟨x0, (rd_T95 x2 x1).f1, (rd_T95 x2 x1).f2, (rd_T95 x2 x1).f3⟩ : S95)) x1).f0, (wrap64 (x0 + (1 : Int))), (rd_T95 (List.set x2 (Int.toNat x1) (⟨x0, (rd_T95 x2 x1).f1, (rd_T95 x2 x1).f2, (rd_T95 x2 x1).f3⟩ : S95)) x1).f2, (rd_T95 (List.set x2 (Int.toNat x1) (⟨x0, (rd_T95 x2 x1).f1, (rd_T95 x2 x1).f2, (rd_T95 x2 x1).f3⟩ : S95)) x1).f3⟩ : S95)) (Int.toNat x1) (⟨(rd_T95 (List.set (List.set x2 (Int.toNat x1) (⟨x0, (rd_T95 x2 x1).f1, (rd_T95 x2 x1).f2, (rd_T95 x2 x1).f3⟩ : S95)) (Int.toNat x1) (⟨(rd_T95 (List.set x2 (Int.toNat x1) (⟨x0, (rd_T95 x2 x1).f1, (rd_T95 x2 x1).f2, (rd_T95 x2 x1).f3⟩ : S95)) x1).f0, (wrap64 (x0 + (1 : Int))), (rd_T95 (List.set x2 (Int.toNat x1) (⟨x0, (rd_T95 x2 x1).f1, (rd_T95 x2 x1).f2, (rd_T95 x2 x1).f3⟩ : S95)) x1).f2, (rd_T95 (List.set x2 (Int.toNat x1) (⟨x0, (rd_T95 x2 x1).f1, (rd_T95 x2 x1).f2, (rd_T95 x2 x1).f3⟩ : S95)) x1).f3⟩ : S95)) x1).f0, (rd_T95 (List.set (List.set x2 (Int.toNat x1) (⟨x0, (rd_T95 x2 x1).f1, (rd_T95 x2 x1).f2, (rd_T95 x2 x1).f3⟩ : S95)) (Int.toNat x1) (⟨(rd_T95 (List.set x2 (Int.toNat x1) (⟨x0, (rd_T95 x2 x1).f1, (rd_T95 x2 x1).f2, (rd_T95 x2 x1).f3⟩ : S95)) x1).f0, (wrap64 (x0 + (1 : Int))), (rd_T95 (List.set x2 (Int.toNat x1) (⟨x0, (rd_T95 x2 x1).f1, (rd_T95 x2 x1).f2, (rd_T95 x2 x1).f3⟩ : S95)) x1).f2, (rd_T95 (List.set x2 (Int.toNat x1) (⟨x0, (rd_T95 x2 x1).f1, (rd_T95 x2 x1).f2, (rd_T95 x2 x1).f3⟩ : S95)) x1).f3⟩ : S95)) x1).f1, (wrap64 ((wrap64 (x0 + (1 : Int))) + (1 : Int))), (rd_T95 (List.set (List.set x2 (Int.toNat x1) (⟨x0, (rd_T95 x2 x1).f1, (rd_T95 x2 x1).f2, (rd_T95 x2 x1).f3⟩ : S95)) (Int.toNat x1) (⟨(rd_T95 (List.set x2 (Int.toNat x1) (⟨x0, (rd_T95 x2 x1).f1, (rd_T95 x2 x1).f2, (rd_T95 x2 x1).f3⟩ : S95)) x1).f0, (wrap64 (x0 + (1 : Int))), (rd_T95 (List.set x2 (Int.toNat x1) (⟨x0, (rd_T95 x2 x1).f1, (rd_T95 x2 x1).f2, (rd_T95 x2 x1).f3⟩ : S95)) x1).f2, (rd_T95 (List.set x2 (Int.toNat x1) (⟨x0, (rd_T95 x2 x1).f1, (rd_T95 x2 x1).f2, (rd_T95 x2 x1).f3⟩ : S95)) x1).f3⟩ : S95)) x1).f3⟩ : S95)) x1).f2, (wrap64 ((wrap64 ((wrap64 (x0 + (1 : Int))) + (1 : Int))) + (1 : Int)))⟩ : S95))) (none)) (none)) (none)) (none)) (none)) (none)) (none)) (none)) (k (.int .i64 x0) ⟨[], [some ⟨95, x2, 0⟩]⟩) : Option Unit) := by
 simp only [← wrapA_i64]
 kernel_rfl
theorem w_97 (l0 : List S95) (a1 : Int) (k : AV tau → Mem tau → Option Unit) : fnA E_97 C_97 D_97 Try.f97 B_97 [.own 0 0, .int .i64 a1] ⟨[], [some ⟨95, l0, 0⟩]⟩ k = (LP_97_0 k a1 (0 : Int) l0 : Option Unit) := by kernel_rfl
def S_97_0 (N : Nat) : Prop := ∀ (k : AV tau → Mem tau → Option Unit) (x0 : Int) (x1 : Int) (x2 : (List S95)) (r : Int × (List (S95))), laws_markInsS.l0 N (x2) (x0) (x1) = some r → k (.int .i64 (r.1)) ⟨[], [some ⟨95, r.2, 0⟩]⟩ = some () → LP_97_0 k x0 x1 x2 = some ()
theorem L_97 (N : Nat) : S_97_0 N := by
 induction N using Nat.strongRecOn with | _ N0 ih =>
 skip
 intro k x0 x1 x2 r h hk
 rcases N0 with _ | N
 · cases h
 first | rw [laws_markInsS.l0] at h | simp only [laws_markInsS.l0] at h | (unfold laws_markInsS.l0 at h; dsimp only at h)
 refine loop_fold mC_97 mD_97 ?_
 refine (w_97_0 k x0 x1 x2).trans ?_
 refine br_eti h rfl (fun c5 h => ?_) (fun c5 h => ?_)
 ·cases h; exact hk
 refine br_g h rfl (fun c6 h => ?_)
 replace h := let_h h
 replace h := let_h h
 replace h := let_h h
 refine br_t (by first | (simp [c5]; done) | (simp; omega) | (simp only [List.length_append, List.length_cons, List.length_nil, List.length_take, List.length_drop] at c5 ⊢; simp; omega) | (simp only [List.length_append, List.length_cons, List.length_nil, List.length_take, List.length_drop] at c5; simp; omega) | (simp_all; done)) ?_
 refine br_t (by first | (simp [c6]; done) | (simp; omega) | (simp only [List.length_append, List.length_cons, List.length_nil, List.length_take, List.length_drop] at c5 ⊢; simp; omega) | (simp only [List.length_append, List.length_cons, List.length_nil, List.length_take, List.length_drop] at c5; simp; omega) | (simp_all; done)) ?_
 refine br_t (by first | (simp; omega) | (simp only [List.length_append, List.length_cons, List.length_nil, List.length_take, List.length_drop] at c5 ⊢; simp; omega) | (simp only [List.length_append, List.length_cons, List.length_nil, List.length_take, List.length_drop] at c5; simp; omega)) ?_
 refine br_t (by first | (simp [c6]; done) | (simp; omega) | (simp only [List.length_append, List.length_cons, List.length_nil, List.length_take, List.length_drop] at c5 ⊢; simp; omega) | (simp only [List.length_append, List.length_cons, List.length_nil, List.length_take, List.length_drop] at c5; simp; omega) | (simp_all; done)) ?_
 refine br_t (by first | (simp; omega) | (simp only [List.length_append, List.length_cons, List.length_nil, List.length_take, List.length_drop] at c5 ⊢; simp; omega) | (simp only [List.length_append, List.length_cons, List.length_nil, List.length_take, List.length_drop] at c5; simp; omega)) ?_
 refine br_t (by first | (simp [c6]; done) | (simp; omega) | (simp only [List.length_append, List.length_cons, List.length_nil, List.length_take, List.length_drop] at c5 ⊢; simp; omega) | (simp only [List.length_append, List.length_cons, List.length_nil, List.length_take, List.length_drop] at c5; simp; omega) | (simp_all; done)) ?_
 refine br_t (by first | (simp; omega) | (simp only [List.length_append, List.length_cons, List.length_nil, List.length_take, List.length_drop] at c5 ⊢; simp; omega) | (simp only [List.length_append, List.length_cons, List.length_nil, List.length_take, List.length_drop] at c5; simp; omega)) ?_
 exact (ih N (by omega)) _ _ _ _ _ h hk
theorem okc_97 (args : List (AV tau)) (m : Mem tau) (κ : AV tau → Mem tau → Option Unit) (hh : c_97 args m κ = some ()) : ∃ av m1, κ av m1 = some () ∧ ToldA Try.prog TT (pnT 97) 97 args m av m1 := by
 obtain ⟨bx_, rw_⟩ := m
 unfold c_97 at hh
 simp only at hh
 split at hh
 case h_2 => cases hh
 rename_i b0 b1 r0
 obtain ⟨u7, hx0, hh0⟩ := bO_some hh
 obtain ⟨l0, hx1, hh1⟩ := bO_some hh0
 obtain ⟨a1, hx2, hh2⟩ := bO_some hh1
 have ex0 := asOwn_some hx0
 have ex1 := asRow_some hx1
 have ex2 := asI_some hx2
 subst ex0 ex1 ex2
 obtain ⟨N, t, h, hκ⟩ := callX_some hh2
 refine ⟨_, _, hκ, told_of_run pq okC_97 (fun _ _ _ => drawA_ok pq okC_97 hmix) (E := E_97) (fn := Try.f97) (body := B_97) (by kernel_rfl) (by kernel_rfl) (by kernel_rfl) (by rfl) (by exact Nat.le_of_ble_eq_true rfl) (fun k hk => ?_)⟩
 refine (w_97 l0 a1 k).trans ?_
 replace h : laws_markInsS.f N l0 a1 = some t := h
 unfold laws_markInsS.f at h
 exact (L_97 N) _ _ _ _ _ h hk
noncomputable def C_35 : Ctr tau Unit := ctrS 97 c_97 C_97
noncomputable def D_35 : Drw tau := drawA E_35 C_35
theorem okC_35 : CtrOk Try.prog TT pnT C_35 := ctrS_ok okC_97 okc_97
theorem mC_35 : CtrMono C_35 := ctrS_mono mC_97 mc_97
theorem mD_35 : DrMono D_35 := drawA_mono mC_35
noncomputable def B_35 : Code := Try.f35.body.getD .skip
theorem mc_35 (args : List (AV tau)) (m : Mem tau) (k k' : AV tau → Mem tau → Option Unit) (hk : ∀ av m, k av m = some () → k' av m = some ()) (h : c_35 args m k = some ()) : c_35 args m k' = some () := by
 unfold c_35 at h ⊢
 split at h
 · repeat' first | exact callX_mono (fun _ h => hk _ _ h) h | refine bO_mono (fun _ h => ?_) h
 · cases h
noncomputable def K_35_0 (k : AV tau → Mem tau → Option Unit) : Kon tau := (kBlock 0 (kS E_35 C_35 D_35 (codeP B_35 [1, 1]) (kEnd E_35 Try.f35 k)))
def st_35_0 (x0 : Int) (x1 : Int) (x2 : (List Int)) : St tau := ⟨tmL 19 0 [(0, .own 0 0), (1, .int .i64 x0), (5, .int .i64 x1)], ⟨[], [some ⟨3, x2, 0⟩]⟩⟩
noncomputable def LP_35_0 (k : AV tau → Mem tau → Option Unit) (x0 : Int) (x1 : Int) (x2 : (List Int)) : Option Unit := loopA E_35 (codeA E_35 C_35 D_35 (codeP B_35 [1, 0, 1, 0, 0])) (codeP B_35 [1, 0, 1, 0, 0]) (K_35_0 k) (st_35_0 x0 x1 x2)
theorem w_35_0 (k : AV tau → Mem tau → Option Unit) (x0 : Int) (x1 : Int) (x2 : (List Int)) : codeA E_35 C_35 D_35 (codeP B_35 [1, 0, 1, 0, 0]) (kL E_35 C_35 D_35 (codeP B_35 [1, 0, 1, 0, 0]) (K_35_0 k)) (st_35_0 x0 x1 x2) = (brA (decide (x1 < ((x2.length : Nat) : Int))) (brA (decide ((0 : Int) ≤ x1)) (brA (decide (x1 < ((x2.length : Nat) : Int))) (LP_35_0 k (wrap64 (x0 + (1 : Int))) (wrap64 (x1 + (1 : Int))) (List.set x2 (Int.toNat x1) x0)) (none)) (none)) (k (.int .i64 x0) ⟨[], [some ⟨3, x2, 0⟩]⟩) : Option Unit) := by
 simp only [← wrapA_i64]
 kernel_rfl
theorem w_35 (l0 : List Int) (a1 : Int) (k : AV tau → Mem tau → Option Unit) : fnA E_35 C_35 D_35 Try.f35 B_35 [.own 0 0, .int .i64 a1] ⟨[], [some ⟨3, l0, 0⟩]⟩ k = (LP_35_0 k a1 (0 : Int) l0 : Option Unit) := by kernel_rfl
def S_35_0 (N : Nat) : Prop := ∀ (k : AV tau → Mem tau → Option Unit) (x0 : Int) (x1 : Int) (x2 : (List Int)) (r : Int × List Int), laws_markIntS.l0 N (x2) (x0) (x1) = some r → k (.int .i64 (r.1)) ⟨[], [some ⟨3, r.2, 0⟩]⟩ = some () → LP_35_0 k x0 x1 x2 = some ()
theorem L_35 (N : Nat) : S_35_0 N := by
 induction N using Nat.strongRecOn with | _ N0 ih =>
 skip
 intro k x0 x1 x2 r h hk
 rcases N0 with _ | N
 · cases h
 first | rw [laws_markIntS.l0] at h | simp only [laws_markIntS.l0] at h | (unfold laws_markIntS.l0 at h; dsimp only at h)
 refine loop_fold mC_35 mD_35 ?_
 refine (w_35_0 k x0 x1 x2).trans ?_
 refine br_eti h rfl (fun c5 h => ?_) (fun c5 h => ?_)
 ·cases h; exact hk
 refine br_g h rfl (fun c6 h => ?_)
 refine br_t (by first | (simp [c5]; done) | (simp; omega) | (simp only [List.length_append, List.length_cons, List.length_nil, List.length_take, List.length_drop] at c5 ⊢; simp; omega) | (simp only [List.length_append, List.length_cons, List.length_nil, List.length_take, List.length_drop] at c5; simp; omega) | (simp_all; done)) ?_
 exact (ih N (by omega)) _ _ _ _ _ h hk
theorem okc_35 (args : List (AV tau)) (m : Mem tau) (κ : AV tau → Mem tau → Option Unit) (hh : c_35 args m κ = some ()) : ∃ av m1, κ av m1 = some () ∧ ToldA Try.prog TT (pnT 35) 35 args m av m1 := by
 obtain ⟨bx_, rw_⟩ := m
 unfold c_35 at hh
 simp only at hh
 split at hh
 case h_2 => cases hh
 rename_i b0 b1 r0
 obtain ⟨u7, hx0, hh0⟩ := bO_some hh
 obtain ⟨l0, hx1, hh1⟩ := bO_some hh0
 obtain ⟨a1, hx2, hh2⟩ := bO_some hh1
 have ex0 := asOwn_some hx0
 have ex1 := asRow_some hx1
 have ex2 := asI_some hx2
 subst ex0 ex1 ex2
 obtain ⟨N, t, h, hκ⟩ := callX_some hh2
 refine ⟨_, _, hκ, told_of_run pq okC_35 (fun _ _ _ => drawA_ok pq okC_35 hmix) (E := E_35) (fn := Try.f35) (body := B_35) (by kernel_rfl) (by kernel_rfl) (by kernel_rfl) (by rfl) (by exact Nat.le_of_ble_eq_true rfl) (fun k hk => ?_)⟩
 refine (w_35 l0 a1 k).trans ?_
 replace h : laws_markIntS.f N l0 a1 = some t := h
 unfold laws_markIntS.f at h
 exact (L_35 N) _ _ _ _ _ h hk
noncomputable def C_36 : Ctr tau Unit := ctrS 35 c_35 C_35
noncomputable def D_36 : Drw tau := drawA E_36 C_36
theorem okC_36 : CtrOk Try.prog TT pnT C_36 := ctrS_ok okC_35 okc_35
theorem mC_36 : CtrMono C_36 := ctrS_mono mC_35 mc_35
theorem mD_36 : DrMono D_36 := drawA_mono mC_36
noncomputable def B_36 : Code := Try.f36.body.getD .skip
theorem mc_36 (args : List (AV tau)) (m : Mem tau) (k k' : AV tau → Mem tau → Option Unit) (hk : ∀ av m, k av m = some () → k' av m = some ()) (h : c_36 args m k = some ()) : c_36 args m k' = some () := by
 unfold c_36 at h ⊢
 split at h
 · repeat' first | exact callX_mono (fun _ h => hk _ _ h) h | refine bO_mono (fun _ h => ?_) h
 · cases h
noncomputable def K_36_0 (k : AV tau → Mem tau → Option Unit) : Kon tau := (kBlock 0 (kS E_36 C_36 D_36 (codeP B_36 [1, 1]) (kEnd E_36 Try.f36 k)))
def st_36_0 (x0 : (List S37)) (x1 : Int) (x2 : Int) : St tau := ⟨tmL 31 0 [(0, .sl 37 x0), (1, .int .i64 x1), (5, .int .i64 x2)], ⟨[], []⟩⟩
noncomputable def LP_36_0 (k : AV tau → Mem tau → Option Unit) (x0 : (List S37)) (x1 : Int) (x2 : Int) : Option Unit := loopA E_36 (codeA E_36 C_36 D_36 (codeP B_36 [1, 0, 1, 0, 0])) (codeP B_36 [1, 0, 1, 0, 0]) (K_36_0 k) (st_36_0 x0 x1 x2)
theorem w_36_0 (k : AV tau → Mem tau → Option Unit) (x0 : (List S37)) (x1 : Int) (x2 : Int) : codeA E_36 C_36 D_36 (codeP B_36 [1, 0, 1, 0, 0]) (kL E_36 C_36 D_36 (codeP B_36 [1, 0, 1, 0, 0]) (K_36_0 k)) (st_36_0 x0 x1 x2) = (brA (decide (x2 < ((x0.length : Nat) : Int))) (brA (decide ((0 : Int) ≤ x2)) (brA (decide (x2 < ((x0.length : Nat) : Int))) (brA (!(decide ((rd_T37 x0 x2).f0 = x1))) (k (.int .i64 (-(1 : Int))) ⟨[], []⟩) (brA (decide ((0 : Int) ≤ x2)) (brA (decide (x2 < ((x0.length : Nat) : Int))) (brA (!(decide ((rd_T37 x0 x2).f1 = (wrap64 (x1 + (1 : Int)))))) (k (.int .i64 (-(1 : Int))) ⟨[], []⟩) (LP_36_0 k x0 (wrap64 ((wrap64 (x1 + (1 : Int))) + (1 : Int))) (wrap64 (x2 + (1 : Int))))) (none)) (none))) (none)) (none)) (k (.int .i64 x1) ⟨[], []⟩) : Option Unit) := by
 simp only [← wrapA_i64]
 kernel_rfl
theorem w_36 (l0 : List S37) (a1 : Int) (k : AV tau → Mem tau → Option Unit) : fnA E_36 C_36 D_36 Try.f36 B_36 [.sl 37 l0, .int .i64 a1] ⟨[], []⟩ k = (LP_36_0 k l0 a1 (0 : Int) : Option Unit) := by kernel_rfl
def S_36_0 (N : Nat) : Prop := ∀ (k : AV tau → Mem tau → Option Unit) (x0 : (List S37)) (x1 : Int) (x2 : Int) (r : Int), laws_heldBoxS.l0 N (x0) (x1) (x2) = some r → k (.int .i64 (r)) ⟨[], []⟩ = some () → LP_36_0 k x0 x1 x2 = some ()
theorem L_36 (N : Nat) : S_36_0 N := by
 induction N using Nat.strongRecOn with | _ N0 ih =>
 skip
 intro k x0 x1 x2 r h hk
 rcases N0 with _ | N
 · cases h
 first | rw [laws_heldBoxS.l0] at h | simp only [laws_heldBoxS.l0] at h | (unfold laws_heldBoxS.l0 at h; dsimp only at h)
 refine loop_fold mC_36 mD_36 ?_
 refine (w_36_0 k x0 x1 x2).trans ?_
 refine br_eti h rfl (fun c9 h => ?_) (fun c9 h => ?_)
 ·cases h; exact hk
 refine br_g h rfl (fun c10 h => ?_)
 refine br_t (by first | (simp [c9]; done) | (simp; omega) | (simp only [List.length_append, List.length_cons, List.length_nil, List.length_take, List.length_drop] at c9 ⊢; simp; omega) | (simp only [List.length_append, List.length_cons, List.length_nil, List.length_take, List.length_drop] at c9; simp; omega) | (simp_all; done)) ?_
 refine br_etn h rfl (fun c11 h => ?_) (fun c11 h => ?_)
 ·cases h; exact hk
 refine br_t (by first | (simp [c10]; done) | (simp; omega) | (simp only [List.length_append, List.length_cons, List.length_nil, List.length_take, List.length_drop] at c9 ⊢; simp; omega) | (simp only [List.length_append, List.length_cons, List.length_nil, List.length_take, List.length_drop] at c9; simp; omega) | (simp_all; done)) ?_
 refine br_t (by first | (simp [c9]; done) | (simp; omega) | (simp only [List.length_append, List.length_cons, List.length_nil, List.length_take, List.length_drop] at c9 ⊢; simp; omega) | (simp only [List.length_append, List.length_cons, List.length_nil, List.length_take, List.length_drop] at c9; simp; omega) | (simp_all; done)) ?_
 refine br_etn h rfl (fun c12 h => ?_) (fun c12 h => ?_)
 ·cases h; exact hk
 exact (ih N (by omega)) _ _ _ _ _ h hk
theorem okc_36 (args : List (AV tau)) (m : Mem tau) (κ : AV tau → Mem tau → Option Unit) (hh : c_36 args m κ = some ()) : ∃ av m1, κ av m1 = some () ∧ ToldA Try.prog TT (pnT 36) 36 args m av m1 := by
 obtain ⟨bx_, rw_⟩ := m
 unfold c_36 at hh
 simp only at hh
 split at hh
 case h_2 => cases hh
 rename_i b0 b1
 obtain ⟨l0, hx0, hh0⟩ := bO_some hh
 obtain ⟨a1, hx1, hh1⟩ := bO_some hh0
 have ex0 := asSl_some hx0
 have ex1 := asI_some hx1
 subst ex0 ex1
 obtain ⟨N, t, h, hκ⟩ := callX_some hh1
 refine ⟨_, _, hκ, told_of_run pq okC_36 (fun _ _ _ => drawA_ok pq okC_36 hmix) (E := E_36) (fn := Try.f36) (body := B_36) (by kernel_rfl) (by kernel_rfl) (by kernel_rfl) (by rfl) (by exact Nat.le_of_ble_eq_true rfl) (fun k hk => ?_)⟩
 refine (w_36 l0 a1 k).trans ?_
 replace h : laws_heldBoxS.f N l0 a1 = some t := h
 unfold laws_heldBoxS.f at h
 exact (L_36 N) _ _ _ _ _ h hk
noncomputable def C_37 : Ctr tau Unit := ctrS 36 c_36 C_36
noncomputable def D_37 : Drw tau := drawA E_37 C_37
theorem okC_37 : CtrOk Try.prog TT pnT C_37 := ctrS_ok okC_36 okc_36
theorem mC_37 : CtrMono C_37 := ctrS_mono mC_36 mc_36
theorem mD_37 : DrMono D_37 := drawA_mono mC_37
noncomputable def B_37 : Code := Try.f37.body.getD .skip
theorem mc_37 (args : List (AV tau)) (m : Mem tau) (k k' : AV tau → Mem tau → Option Unit) (hk : ∀ av m, k av m = some () → k' av m = some ()) (h : c_37 args m k = some ()) : c_37 args m k' = some () := by
 unfold c_37 at h ⊢
 split at h
 · repeat' first | exact callX_mono (fun _ h => hk _ _ h) h | refine bO_mono (fun _ h => ?_) h
 · cases h
noncomputable def K_37_0 (k : AV tau → Mem tau → Option Unit) : Kon tau := (kBlock 0 (kS E_37 C_37 D_37 (codeP B_37 [1, 1]) (kEnd E_37 Try.f37 k)))
def st_37_0 (x0 : (List Int)) (x1 : Int) (x2 : Int) : St tau := ⟨tmL 21 0 [(0, .sl 3 x0), (1, .int .i64 x1), (5, .int .i64 x2)], ⟨[], []⟩⟩
noncomputable def LP_37_0 (k : AV tau → Mem tau → Option Unit) (x0 : (List Int)) (x1 : Int) (x2 : Int) : Option Unit := loopA E_37 (codeA E_37 C_37 D_37 (codeP B_37 [1, 0, 1, 0, 0])) (codeP B_37 [1, 0, 1, 0, 0]) (K_37_0 k) (st_37_0 x0 x1 x2)
theorem w_37_0 (k : AV tau → Mem tau → Option Unit) (x0 : (List Int)) (x1 : Int) (x2 : Int) : codeA E_37 C_37 D_37 (codeP B_37 [1, 0, 1, 0, 0]) (kL E_37 C_37 D_37 (codeP B_37 [1, 0, 1, 0, 0]) (K_37_0 k)) (st_37_0 x0 x1 x2) = (brA (decide (x2 < ((x0.length : Nat) : Int))) (brA (decide ((0 : Int) ≤ x2)) (brA (decide (x2 < ((x0.length : Nat) : Int))) (brA (!(decide ((rd x0 x2) = x1))) (k (.int .i64 (-(1 : Int))) ⟨[], []⟩) (LP_37_0 k x0 (wrap64 (x1 + (1 : Int))) (wrap64 (x2 + (1 : Int))))) (none)) (none)) (k (.int .i64 x1) ⟨[], []⟩) : Option Unit) := by
 simp only [← wrapA_i64]
 kernel_rfl
theorem w_37 (l0 : List Int) (a1 : Int) (k : AV tau → Mem tau → Option Unit) : fnA E_37 C_37 D_37 Try.f37 B_37 [.sl 3 l0, .int .i64 a1] ⟨[], []⟩ k = (LP_37_0 k l0 a1 (0 : Int) : Option Unit) := by kernel_rfl
def S_37_0 (N : Nat) : Prop := ∀ (k : AV tau → Mem tau → Option Unit) (x0 : (List Int)) (x1 : Int) (x2 : Int) (r : Int), laws_heldIntS.l0 N (x0) (x1) (x2) = some r → k (.int .i64 (r)) ⟨[], []⟩ = some () → LP_37_0 k x0 x1 x2 = some ()
theorem L_37 (N : Nat) : S_37_0 N := by
 induction N using Nat.strongRecOn with | _ N0 ih =>
 skip
 intro k x0 x1 x2 r h hk
 rcases N0 with _ | N
 · cases h
 first | rw [laws_heldIntS.l0] at h | simp only [laws_heldIntS.l0] at h | (unfold laws_heldIntS.l0 at h; dsimp only at h)
 refine loop_fold mC_37 mD_37 ?_
 refine (w_37_0 k x0 x1 x2).trans ?_
 refine br_eti h rfl (fun c7 h => ?_) (fun c7 h => ?_)
 ·cases h; exact hk
 refine br_g h rfl (fun c8 h => ?_)
 refine br_t (by first | (simp [c7]; done) | (simp; omega) | (simp only [List.length_append, List.length_cons, List.length_nil, List.length_take, List.length_drop] at c7 ⊢; simp; omega) | (simp only [List.length_append, List.length_cons, List.length_nil, List.length_take, List.length_drop] at c7; simp; omega) | (simp_all; done)) ?_
 refine br_etn h rfl (fun c9 h => ?_) (fun c9 h => ?_)
 ·cases h; exact hk
 exact (ih N (by omega)) _ _ _ _ _ h hk
theorem okc_37 (args : List (AV tau)) (m : Mem tau) (κ : AV tau → Mem tau → Option Unit) (hh : c_37 args m κ = some ()) : ∃ av m1, κ av m1 = some () ∧ ToldA Try.prog TT (pnT 37) 37 args m av m1 := by
 obtain ⟨bx_, rw_⟩ := m
 unfold c_37 at hh
 simp only at hh
 split at hh
 case h_2 => cases hh
 rename_i b0 b1
 obtain ⟨l0, hx0, hh0⟩ := bO_some hh
 obtain ⟨a1, hx1, hh1⟩ := bO_some hh0
 have ex0 := asSl_some hx0
 have ex1 := asI_some hx1
 subst ex0 ex1
 obtain ⟨N, t, h, hκ⟩ := callX_some hh1
 refine ⟨_, _, hκ, told_of_run pq okC_37 (fun _ _ _ => drawA_ok pq okC_37 hmix) (E := E_37) (fn := Try.f37) (body := B_37) (by kernel_rfl) (by kernel_rfl) (by kernel_rfl) (by rfl) (by exact Nat.le_of_ble_eq_true rfl) (fun k hk => ?_)⟩
 refine (w_37 l0 a1 k).trans ?_
 replace h : laws_heldIntS.f N l0 a1 = some t := h
 unfold laws_heldIntS.f at h
 exact (L_37 N) _ _ _ _ _ h hk
end Go.Proofs.Ytkkmhlfpombgfaa.PFnExactSerialAll