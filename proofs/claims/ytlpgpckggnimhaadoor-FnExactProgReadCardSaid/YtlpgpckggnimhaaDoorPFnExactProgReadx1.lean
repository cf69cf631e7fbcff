/- The machine's texts of FnExactProgRead (links). Conditions: none. -/
import Derived.Test.YtlpgpckggnimhaaDoorPFnExactProgReadx0
set_option linter.unusedVariables false
set_option linter.unusedSimpArgs false
set_option maxRecDepth 100000
set_option maxHeartbeats 4000000
namespace Go.Proofs.YtlpgpckggnimhaaDoor.PFnExactProgRead
open Go.RowKit Go.Proofs.YtlpgpckggnimhaaDoorW.PrintWords Go.Proofs.YtlpgpckggnimhaaDoorW.PrintLast Go.Proofs.YtlpgpckggnimhaaDoorW.PrintMore
open Go Go.Proofs Am
noncomputable def C_58 : Ctr tau Unit := ctr0
theorem okC_58 : CtrOk Tryd.prog TT pnT C_58 := ctr0_ok
theorem mC_58 : CtrMono C_58 := ctr0_mono
theorem mc_58 (args : List (AV tau)) (m : Mem tau) (k k' : AV tau → Mem tau → Option Unit) (hk : ∀ av m, k av m = some () → k' av m = some ()) (h : c_58 args m k = some ()) : c_58 args m k' = some () := by
 unfold c_58 at h ⊢
 split at h
 · repeat' first | exact callX_mono (fun _ h => hk _ _ h) h | refine bO_mono (fun _ h => ?_) h
 · cases h
theorem okc_58 (args : List (AV tau)) (m : Mem tau) (κ : AV tau → Mem tau → Option Unit) (hh : c_58 args m κ = some ()) : ∃ av m1, κ av m1 = some () ∧ ToldA Tryd.prog TT (pnT 58) 58 args m av m1 := by
 obtain ⟨bx_, rw_⟩ := m
 unfold c_58 at hh
 simp only at hh
 split at hh
 case h_2 => cases hh
 rename_i b0
 obtain ⟨a0, hx0, hh0⟩ := bO_some hh
 have ex0 := asI_some hx0
 subst ex0
 obtain ⟨N, t, h, hκ⟩ := callX_some hh0
 replace h : strconv_Itoa.f N a0 = some t := h
 refine ⟨_, _, hκ, ?_⟩
 unfold strconv_Itoa.f at h
 split at h
 case isFalse => cases h
 rename_i hb
 cases h
 exact told_num ⟨Tryd.f58, by kernel_rfl, by kernel_rfl, by kernel_rfl⟩ (fun w S hg => (Any.strconv_Itoa Tryd.laysM171 a0 hb.1 hb.2 w hg.2.2.2.2).mono fun e w' ⟨he, d, os, hw⟩ => ⟨he, hw ▸ below_grown w d os⟩)
noncomputable def C_91 : Ctr tau Unit := ctrS 58 c_58 C_58
theorem okC_91 : CtrOk Tryd.prog TT pnT C_91 := ctrS_ok okC_58 okc_58
theorem mC_91 : CtrMono C_91 := ctrS_mono mC_58 mc_58
theorem mc_91 (args : List (AV tau)) (m : Mem tau) (k k' : AV tau → Mem tau → Option Unit) (hk : ∀ av m, k av m = some () → k' av m = some ()) (h : c_91 args m k = some ()) : c_91 args m k' = some () := by
 unfold c_91 at h ⊢
 split at h
 · repeat' first | exact callX_mono (fun _ h => hk _ _ h) h | refine bO_mono (fun _ h => ?_) h
 · cases h
theorem okc_91 (args : List (AV tau)) (m : Mem tau) (κ : AV tau → Mem tau → Option Unit) (hh : c_91 args m κ = some ()) : ∃ av m1, κ av m1 = some () ∧ ToldA Tryd.prog TT (pnT 91) 91 args m av m1 := by
 obtain ⟨bx_, rw_⟩ := m
 unfold c_91 at hh
 simp only at hh
 split at hh
 case h_2 => cases hh
 rename_i b0 b1
 obtain ⟨a0, hx0, hh0⟩ := bO_some hh
 obtain ⟨a1, hx1, hh1⟩ := bO_some hh0
 have ex0 := asS_some hx0
 have ex1 := asS_some hx1
 subst ex0 ex1
 obtain ⟨N, t, h, hκ⟩ := callX_some hh1
 replace h : strings_TrimPrefix.f N a0 a1 = some t := h
 refine ⟨_, _, hκ, ?_⟩
 cases h
 exact told_two ⟨Tryd.f91, by kernel_rfl, by kernel_rfl, by kernel_rfl⟩ (fun _ _ _ => .str _) (fun w S _ => (Any.strings_TrimPrefix Tryd.lays101 a0 a1 w).mono fun e w' ⟨he, hw⟩ => ⟨he, hw ▸ .refl _ _⟩)
noncomputable def C_52 : Ctr tau Unit := ctrS 91 c_91 C_91
theorem okC_52 : CtrOk Tryd.prog TT pnT C_52 := ctrS_ok okC_91 okc_91
theorem mC_52 : CtrMono C_52 := ctrS_mono mC_91 mc_91
theorem mc_52 (args : List (AV tau)) (m : Mem tau) (k k' : AV tau → Mem tau → Option Unit) (hk : ∀ av m, k av m = some () → k' av m = some ()) (h : c_52 args m k = some ()) : c_52 args m k' = some () := by
 unfold c_52 at h ⊢
 split at h
 · repeat' first | exact callX_mono (fun _ h => hk _ _ h) h | refine bO_mono (fun _ h => ?_) h
 · cases h
theorem okc_52 (args : List (AV tau)) (m : Mem tau) (κ : AV tau → Mem tau → Option Unit) (hh : c_52 args m κ = some ()) : ∃ av m1, κ av m1 = some () ∧ ToldA Tryd.prog TT (pnT 52) 52 args m av m1 := by
 obtain ⟨bx_, rw_⟩ := m
 unfold c_52 at hh
 simp only at hh
 split at hh
 case h_2 => cases hh
 rename_i b0 b1
 obtain ⟨a0, hx0, hh0⟩ := bO_some hh
 obtain ⟨a1, hx1, hh1⟩ := bO_some hh0
 have ex0 := asS_some hx0
 have ex1 := asS_some hx1
 subst ex0 ex1
 obtain ⟨N, t, h, hκ⟩ := callX_some hh1
 replace h : strings_Split.f N a0 a1 = some t := h
 refine ⟨_, _, hκ, ?_⟩
 unfold strings_Split.f at h
 split at h
 case isFalse => cases h
 rename_i hb
 cases h
 have hl : (splitW a0 a1).length = Lib.countB a0 a1 + 1 := Lib.splitB_all a1 hb.2 0 _ a0 rfl
 have hle := Lib.countB_le a1 hb.2 a0.size a0 (Nat.le_refl _)
 exact told_split (T := TT) (P := Tryd.prog) (e := 9) (xs := (splitW a0 a1 : List ByteArray)) (ys := splitW a0 a1) (k := Lib.countB a0 a1 + 1) ⟨Tryd.f52, by kernel_rfl, by kernel_rfl, by kernel_rfl⟩ rfl rfl (fun j x y hx hy => by
   have := hx.symm.trans hy
   cases this; rfl) hl (by
   have := hb.1
   simp only [maxLen]; omega) (fun w S hg => by
   obtain ⟨⟨_, _, m, hm⟩, _⟩ := hg
   exact Any.strings_Split { Tryd.laysM146 with } Tryd.laysM146.i9 a0 a1 m w hb.1 hm hb.2)
noncomputable def C_65 : Ctr tau Unit := ctrS 52 c_52 C_52
noncomputable def D_65 : Drw tau := drawA E_65 C_65
theorem okC_65 : CtrOk Tryd.prog TT pnT C_65 := ctrS_ok okC_52 okc_52
theorem mC_65 : CtrMono C_65 := ctrS_mono mC_52 mc_52
theorem mD_65 : DrMono D_65 := drawA_mono mC_65
noncomputable def B_65 : Code := Tryd.f65.body.getD .skip
theorem mc_65 (args : List (AV tau)) (m : Mem tau) (k k' : AV tau → Mem tau → Option Unit) (hk : ∀ av m, k av m = some () → k' av m = some ()) (h : c_65 args m k = some ()) : c_65 args m k' = some () := by
 unfold c_65 at h ⊢
 split at h
 · repeat' first | exact callX_mono (fun _ h => hk _ _ h) h | refine bO_mono (fun _ h => ?_) h
 · cases h
theorem w_65 (a0 : Int) (k : AV tau → Mem tau → Option Unit) : fnA E_65 C_65 D_65 Tryd.f65 B_65 [.int .i64 a0] ⟨[], []⟩ k = (brA (decide (a0 ≥ (-(1000000 : Int)))) (k (.bool (decide (a0 ≤ (1000000 : Int)))) ⟨[], []⟩) (k (.bool false) ⟨[], []⟩) : Option Unit) := by kernel_rfl
theorem okc_65 (args : List (AV tau)) (m : Mem tau) (κ : AV tau → Mem tau → Option Unit) (hh : c_65 args m κ = some ()) : ∃ av m1, κ av m1 = some () ∧ ToldA Tryd.prog TT (pnT 65) 65 args m av m1 := by
 obtain ⟨bx_, rw_⟩ := m
 unfold c_65 at hh
 simp only at hh
 split at hh
 case h_2 => cases hh
 rename_i b0
 obtain ⟨a0, hx0, hh0⟩ := bO_some hh
 have ex0 := asI_some hx0
 subst ex0
 obtain ⟨N, t, h, hκ⟩ := callX_some hh0
 refine ⟨_, _, hκ, told_of_run pq okC_65 (fun _ _ _ => drawA_ok pq okC_65 hmix) (E := E_65) (fn := Tryd.f65) (body := B_65) (by kernel_rfl) (by kernel_rfl) (by kernel_rfl) (by rfl) (by exact Nat.le_of_ble_eq_true rfl) (fun k hk => ?_)⟩
 refine (w_65 a0 k).trans ?_
 replace h : spec_l1Num.f a0 = some t := h
 unfold spec_l1Num.f at h
 refine br_eti h rfl (fun c2 h => ?_) (fun c2 h => ?_)
 ·cases h; exact hk
 cases h; exact hk
noncomputable def C_95 : Ctr tau Unit := ctrS 65 c_65 C_65
noncomputable def D_95 : Drw tau := drawA E_95 C_95
theorem okC_95 : CtrOk Tryd.prog TT pnT C_95 := ctrS_ok okC_65 okc_65
theorem mC_95 : CtrMono C_95 := ctrS_mono mC_65 mc_65
theorem mD_95 : DrMono D_95 := drawA_mono mC_95
noncomputable def B_95 : Code := Tryd.f95.body.getD .skip
theorem mc_95 (args : List (AV tau)) (m : Mem tau) (k k' : AV tau → Mem tau → Option Unit) (hk : ∀ av m, k av m = some () → k' av m = some ()) (h : c_95 args m k = some ()) : c_95 args m k' = some () := by
 unfold c_95 at h ⊢
 split at h
 · repeat' first | exact callX_mono (fun _ h => hk _ _ h) h | refine bO_mono (fun _ h => ?_) h
 · cases h
theorem w_95 (a0 : Int) (k : AV tau → Mem tau → Option Unit) : fnA E_95 C_95 D_95 Tryd.f95 B_95 [.int .i64 a0] ⟨[], []⟩ k = (brA (decide (a0 ≥ (0 : Int))) (k (.bool (decide (a0 < (4 : Int)))) ⟨[], []⟩) (k (.bool false) ⟨[], []⟩) : Option Unit) := by kernel_rfl
theorem okc_95 (args : List (AV tau)) (m : Mem tau) (κ : AV tau → Mem tau → Option Unit) (hh : c_95 args m κ = some ()) : ∃ av m1, κ av m1 = some () ∧ ToldA Tryd.prog TT (pnT 95) 95 args m av m1 := by
 obtain ⟨bx_, rw_⟩ := m
 unfold c_95 at hh
 simp only at hh
 split at hh
 case h_2 => cases hh
 rename_i b0
 obtain ⟨a0, hx0, hh0⟩ := bO_some hh
 have ex0 := asI_some hx0
 subst ex0
 obtain ⟨N, t, h, hκ⟩ := callX_some hh0
 refine ⟨_, _, hκ, told_of_run pq okC_95 (fun _ _ _ => drawA_ok pq okC_95 hmix) (E := E_95) (fn := Tryd.f95) (body := B_95) (by kernel_rfl) (by kernel_rfl) (by kernel_rfl) (by rfl) (by exact Nat.le_of_ble_eq_true rfl) (fun k hk => ?_)⟩
 refine (w_95 a0 k).trans ?_
 replace h : spec_l2Reg.f a0 = some t := h
 unfold spec_l2Reg.f at h
 refine br_eti h rfl (fun c2 h => ?_) (fun c2 h => ?_)
 ·cases h; exact hk
 cases h; exact hk
noncomputable def C_96 : Ctr tau Unit := ctrS 95 c_95 C_95
noncomputable def D_96 : Drw tau := drawA E_96 C_96
theorem okC_96 : CtrOk Tryd.prog TT pnT C_96 := ctrS_ok okC_95 okc_95
theorem mC_96 : CtrMono C_96 := ctrS_mono mC_95 mc_95
theorem mD_96 : DrMono D_96 := drawA_mono mC_96
noncomputable def B_96 : Code := Tryd.f96.body.getD .skip
theorem mc_96 (args : List (AV tau)) (m : Mem tau) (k k' : AV tau → Mem tau → Option Unit) (hk : ∀ av m, k av m = some () → k' av m = some ()) (h : c_96 args m k = some ()) : c_96 args m k' = some () := by
 unfold c_96 at h ⊢
 split at h
 · repeat' first | exact callX_mono (fun _ h => hk _ _ h) h | refine bO_mono (fun _ h => ?_) h
 · cases h
theorem w_96 (a0 : Int) (k : AV tau → Mem tau → Option Unit) : fnA E_96 C_96 D_96 Tryd.f96 B_96 [.int .i64 a0] ⟨[], []⟩ k = (brA (decide (a0 ≥ (0 : Int))) (k (.bool (decide (a0 < (4 : Int)))) ⟨[], []⟩) (k (.bool false) ⟨[], []⟩) : Option Unit) := by kernel_rfl
theorem okc_96 (args : List (AV tau)) (m : Mem tau) (κ : AV tau → Mem tau → Option Unit) (hh : c_96 args m κ = some ()) : ∃ av m1, κ av m1 = some () ∧ ToldA Tryd.prog TT (pnT 96) 96 args m av m1 := by
 obtain ⟨bx_, rw_⟩ := m
 unfold c_96 at hh
 simp only at hh
 split at hh
 case h_2 => cases hh
 rename_i b0
 obtain ⟨a0, hx0, hh0⟩ := bO_some hh
 have ex0 := asI_some hx0
 subst ex0
 obtain ⟨N, t, h, hκ⟩ := callX_some hh0
 refine ⟨_, _, hκ, told_of_run pq okC_96 (fun _ _ _ => drawA_ok pq okC_96 hmix) (E := E_96) (fn := Tryd.f96) (body := B_96) (by kernel_rfl) (by kernel_rfl) (by kernel_rfl) (by rfl) (by exact Nat.le_of_ble_eq_true rfl) (fun k hk => ?_)⟩
 refine (w_96 a0 k).trans ?_
 replace h : spec_l2Box.f a0 = some t := h
 unfold spec_l2Box.f at h
 refine br_eti h rfl (fun c2 h => ?_) (fun c2 h => ?_)
 ·cases h; exact hk
 cases h; exact hk
noncomputable def C_75 : Ctr tau Unit := ctrS 96 c_96 C_96
noncomputable def D_75 : Drw tau := drawA E_75 C_75
theorem okC_75 : CtrOk Tryd.prog TT pnT C_75 := ctrS_ok okC_96 okc_96
theorem mC_75 : CtrMono C_75 := ctrS_mono mC_96 mc_96
theorem mD_75 : DrMono D_75 := drawA_mono mC_75
noncomputable def B_75 : Code := Tryd.f75.body.getD .skip
theorem mc_75 (args : List (AV tau)) (m : Mem tau) (k k' : AV tau → Mem tau → Option Unit) (hk : ∀ av m, k av m = some () → k' av m = some ()) (h : c_75 args m k = some ()) : c_75 args m k' = some () := by
 unfold c_75 at h ⊢
 split at h
 · repeat' first | exact callX_mono (fun _ h => hk _ _ h) h | refine bO_mono (fun _ h => ?_) h
 · cases h
theorem w_75 (a0_0 : Int) (a0_1 : Int) (a0_2 : Int) (a0_3 : Int) (k : AV tau → Mem tau → Option Unit) : fnA E_75 C_75 D_75 Tryd.f75 B_75 [.agg [.int .i64 a0_0, .int .i64 a0_1, .int .i64 a0_2, .int .i64 a0_3]] ⟨[], []⟩ k = (brA (decide (a0_0 = (1 : Int))) (callX (fun n => spec_l2Reg.f a0_1) fun t0 => brA t0 (callX (fun n => spec_l2Box.f a0_2) fun t1 => brA t1 (k (.bool (decide (a0_3 = (0 : Int)))) ⟨[], []⟩) (k (.bool false) ⟨[], []⟩)) (k (.bool false) ⟨[], []⟩)) (brA (decide (a0_0 = (2 : Int))) (callX (fun n => spec_l2Box.f a0_1) fun t2 => brA t2 (callX (fun n => spec_l2Reg.f a0_2) fun t3 => brA t3 (k (.bool (decide (a0_3 = (0 : Int)))) ⟨[], []⟩) (k (.bool false) ⟨[], []⟩)) (k (.bool false) ⟨[], []⟩)) (brA (decide (a0_0 = (3 : Int))) (callX (fun n => spec_l2Reg.f a0_1) fun t4 => brA t4 (brA (decide (a0_2 = (0 : Int))) (callX (fun n => spec_l1Num.f a0_3) fun t5 => k (.bool t5) ⟨[], []⟩) (k (.bool false) ⟨[], []⟩)) (k (.bool false) ⟨[], []⟩)) (brA (decide (a0_0 = (4 : Int))) (brA (decide (a0_0 = (4 : Int))) (callX (fun n => spec_l2Reg.f a0_1) fun t6 => brA t6 (callX (fun n => spec_l2Reg.f a0_2) fun t7 => brA t7 (k (.bool (decide (a0_3 = (0 : Int)))) ⟨[], []⟩) (k (.bool false) ⟨[], []⟩)) (k (.bool false) ⟨[], []⟩)) (brA (decide (a0_0 = (6 : Int))) (callX (fun n => spec_l2Reg.f a0_1) fun t8 => brA t8 (callX (fun n => spec_l2Reg.f a0_2) fun t9 => brA t9 (brA (decide (a0_3 ≥ (1 : Int))) (k (.bool (decide (a0_3 ≤ (10 : Int)))) ⟨[], []⟩) (k (.bool false) ⟨[], []⟩)) (k (.bool false) ⟨[], []⟩)) (k (.bool false) ⟨[], []⟩)) (brA (decide (a0_0 = (7 : Int))) (brA (decide (a0_1 = (0 : Int))) (brA (decide (a0_2 = (0 : Int))) (k (.bool (decide (a0_3 = (0 : Int)))) ⟨[], []⟩) (k (.bool false) ⟨[], []⟩)) (k (.bool false) ⟨[], []⟩)) (k (.bool false) ⟨[], []⟩)))) (brA (decide (a0_0 = (5 : Int))) (callX (fun n => spec_l2Reg.f a0_1) fun t10 => brA t10 (callX (fun n => spec_l2Reg.f a0_2) fun t11 => brA t11 (k (.bool (decide (a0_3 = (0 : Int)))) ⟨[], []⟩) (k (.bool false) ⟨[], []⟩)) (k (.bool false) ⟨[], []⟩)) (brA (decide (a0_0 = (6 : Int))) (callX (fun n => spec_l2Reg.f a0_1) fun t12 => brA t12 (callX (fun n => spec_l2Reg.f a0_2) fun t13 => brA t13 (brA (decide (a0_3 ≥ (1 : Int))) (k (.bool (decide (a0_3 ≤ (10 : Int)))) ⟨[], []⟩) (k (.bool false) ⟨[], []⟩)) (k (.bool false) ⟨[], []⟩)) (k (.bool false) ⟨[], []⟩)) (brA (decide (a0_0 = (7 : Int))) (brA (decide (a0_1 = (0 : Int))) (brA (decide (a0_2 = (0 : Int))) (k (.bool (decide (a0_3 = (0 : Int)))) ⟨[], []⟩) (k (.bool false) ⟨[], []⟩)) (k (.bool false) ⟨[], []⟩)) (k (.bool false) ⟨[], []⟩))))))) : Option Unit) := by kernel_rfl
theorem okc_75 (args : List (AV tau)) (m : Mem tau) (κ : AV tau → Mem tau → Option Unit) (hh : c_75 args m κ = some ()) : ∃ av m1, κ av m1 = some () ∧ ToldA Tryd.prog TT (pnT 75) 75 args m av m1 := by
 obtain ⟨bx_, rw_⟩ := m
 unfold c_75 at hh
 simp only at hh
 split at hh
 case h_2 => cases hh
 rename_i b0 b1 b2 b3
 obtain ⟨a0_0, hx0, hh0⟩ := bO_some hh
 obtain ⟨a0_1, hx1, hh1⟩ := bO_some hh0
 obtain ⟨a0_2, hx2, hh2⟩ := bO_some hh1
 obtain ⟨a0_3, hx3, hh3⟩ := bO_some hh2
 have ex0 := asI_some hx0
 have ex1 := asI_some hx1
 have ex2 := asI_some hx2
 have ex3 := asI_some hx3
 subst ex0 ex1 ex2 ex3
 obtain ⟨N, t, h, hκ⟩ := callX_some hh3
 refine ⟨_, _, hκ, told_of_run pq okC_75 (fun _ _ _ => drawA_ok pq okC_75 hmix) (E := E_75) (fn := Tryd.f75) (body := B_75) (by kernel_rfl) (by kernel_rfl) (by kernel_rfl) (by rfl) (by exact Nat.le_of_ble_eq_true rfl) (fun k hk => ?_)⟩
 refine (w_75 a0_0 a0_1 a0_2 a0_3 k).trans ?_
 replace h : spec_l2Ins.f N a0_0 a0_1 a0_2 a0_3 = some t := h
 unfold spec_l2Ins.f at h
 refine br_ite h rfl (fun c45 h => ?_) (fun c45 h => ?_)
 ·refine call_h 0 h (fun t0 e46 h => ?_)
  refine br_eti h dect (fun c47 h => ?_) (fun c47 h => ?_)
  ·cases h; exact hk
  refine call_h 0 h (fun t1 e48 h => ?_)
  refine br_eti h dect (fun c49 h => ?_) (fun c49 h => ?_)
  ·cases h; exact hk
  cases h; exact hk
 refine br_ite h rfl (fun c50 h => ?_) (fun c50 h => ?_)
 ·refine call_h 0 h (fun t2 e51 h => ?_)
  refine br_eti h dect (fun c52 h => ?_) (fun c52 h => ?_)
  ·cases h; exact hk
  refine call_h 0 h (fun t3 e53 h => ?_)
  refine br_eti h dect (fun c54 h => ?_) (fun c54 h => ?_)
  ·cases h; exact hk
  cases h; exact hk
 refine br_ite h rfl (fun c55 h => ?_) (fun c55 h => ?_)
 ·refine call_h 0 h (fun t4 e56 h => ?_)
  refine br_eti h dect (fun c57 h => ?_) (fun c57 h => ?_)
  ·cases h; exact hk
  refine br_eti h rfl (fun c58 h => ?_) (fun c58 h => ?_)
  ·cases h; exact hk
  refine call_h 0 h (fun t5 e59 h => ?_)
  cases h; exact hk
 refine br_ite h rfl (fun c60 h => ?_) (fun c60 h => ?_)
 ·rcases N with _ | N
  · cases h
  first | rw [spec_l2Ins.j0] at h | simp only [spec_l2Ins.j0] at h | (unfold spec_l2Ins.j0 at h; dsimp only at h)
  refine br_ite h (by first | rfl | exact dect | exact (congrArg not dect) | (simp; done) | (simp [beqI]; done) | (simp; omega)) (fun c61 h => ?_) (fun c61 h => ?_)
  ·refine call_h 0 h (fun t6 e62 h => ?_)
   refine br_eti h dect (fun c63 h => ?_) (fun c63 h => ?_)
   ·cases h; exact hk
   refine call_h 0 h (fun t7 e64 h => ?_)
   refine br_eti h dect (fun c65 h => ?_) (fun c65 h => ?_)
   ·cases h; exact hk
   cases h; exact hk
  refine br_eti h rfl (fun c66 h => ?_) (fun c66 h => ?_)
  ·refine br_eti h rfl (fun c67 h => ?_) (fun c67 h => ?_)
   ·cases h; exact hk
   refine br_eti h rfl (fun c68 h => ?_) (fun c68 h => ?_)
   ·cases h; exact hk
   refine br_eti h rfl (fun c69 h => ?_) (fun c69 h => ?_)
   ·cases h; exact hk
   cases h; exact hk
  refine call_h 0 h (fun t8 e70 h => ?_)
  refine br_eti h dect (fun c71 h => ?_) (fun c71 h => ?_)
  ·cases h; exact hk
  refine call_h 0 h (fun t9 e72 h => ?_)
  refine br_eti h dect (fun c73 h => ?_) (fun c73 h => ?_)
  ·cases h; exact hk
  refine br_eti h rfl (fun c74 h => ?_) (fun c74 h => ?_)
  ·cases h; exact hk
  cases h; exact hk
 rcases N with _ | N
 · cases h
 first | rw [spec_l2Ins.j0] at h | simp only [spec_l2Ins.j0] at h | (unfold spec_l2Ins.j0 at h; dsimp only at h)
 refine br_ite h (by first | rfl | exact dect | exact (congrArg not dect) | (simp; done) | (simp [beqI]; done) | (simp; omega)) (fun c75 h => ?_) (fun c75 h => ?_)
 ·refine call_h 0 h (fun t10 e76 h => ?_)
  refine br_eti h dect (fun c77 h => ?_) (fun c77 h => ?_)
  ·cases h; exact hk
  refine call_h 0 h (fun t11 e78 h => ?_)
  refine br_eti h dect (fun c79 h => ?_) (fun c79 h => ?_)
  ·cases h; exact hk
  cases h; exact hk
 refine br_eti h rfl (fun c80 h => ?_) (fun c80 h => ?_)
 ·refine br_eti h rfl (fun c81 h => ?_) (fun c81 h => ?_)
  ·cases h; exact hk
  refine br_eti h rfl (fun c82 h => ?_) (fun c82 h => ?_)
  ·cases h; exact hk
  refine br_eti h rfl (fun c83 h => ?_) (fun c83 h => ?_)
  ·cases h; exact hk
  cases h; exact hk
 refine call_h 0 h (fun t12 e84 h => ?_)
 refine br_eti h dect (fun c85 h => ?_) (fun c85 h => ?_)
 ·cases h; exact hk
 refine call_h 0 h (fun t13 e86 h => ?_)
 refine br_eti h dect (fun c87 h => ?_) (fun c87 h => ?_)
 ·cases h; exact hk
 refine br_eti h rfl (fun c88 h => ?_) (fun c88 h => ?_)
 ·cases h; exact hk
 cases h; exact hk
noncomputable def C_30 : Ctr tau Unit := ctrS 75 c_75 C_75
noncomputable def D_30 : Drw tau := drawA E_30 C_30
theorem okC_30 : CtrOk Tryd.prog TT pnT C_30 := ctrS_ok okC_75 okc_75
theorem mC_30 : CtrMono C_30 := ctrS_mono mC_75 mc_75
theorem mD_30 : DrMono D_30 := drawA_mono mC_30
noncomputable def B_30 : Code := Tryd.f30.body.getD .skip
theorem mc_30 (args : List (AV tau)) (m : Mem tau) (k k' : AV tau → Mem tau → Option Unit) (hk : ∀ av m, k av m = some () → k' av m = some ()) (h : c_30 args m k = some ()) : c_30 args m k' = some () := by
 unfold c_30 at h ⊢
 split at h
 · repeat' first | exact callX_mono (fun _ h => hk _ _ h) h | refine bO_mono (fun _ h => ?_) h
 · cases h
noncomputable def K_30_0 (k : AV tau → Mem tau → Option Unit) : Kon tau := (kBlock 0 (kS E_30 C_30 D_30 (codeP B_30 [1, 1, 1]) (kEnd E_30 Tryd.f30 k)))
def st_30_0 (x0 : (List S60)) (x1 : Int) : St tau := ⟨tmL 19 0 [(0, .sl 60 x0), (3, .int .i64 x1)], ⟨[], []⟩⟩
noncomputable def LP_30_0 (k : AV tau → Mem tau → Option Unit) (x0 : (List S60)) (x1 : Int) : Option Unit := loopA E_30 (codeA E_30 C_30 D_30 (codeP B_30 [1, 1, 0, 1, 0, 0])) (codeP B_30 [1, 1, 0, 1, 0, 0]) (K_30_0 k) (st_30_0 x0 x1)
theorem w_30_0 (k : AV tau → Mem tau → Option Unit) (x0 : (List S60)) (x1 : Int) : codeA E_30 C_30 D_30 (codeP B_30 [1, 1, 0, 1, 0, 0]) (kL E_30 C_30 D_30 (codeP B_30 [1, 1, 0, 1, 0, 0]) (K_30_0 k)) (st_30_0 x0 x1) = (brA (decide (x1 < ((x0.length : Nat) : Int))) (brA (decide ((0 : Int) ≤ x1)) (brA (decide (x1 < ((x0.length : Nat) : Int))) (callX (fun n => spec_l2Ins.f n ((rd_T60 x0 x1).f0) ((rd_T60 x0 x1).f1) ((rd_T60 x0 x1).f2) ((rd_T60 x0 x1).f3)) fun t0 => brA (!t0) (k (.bool false) ⟨[], []⟩) (LP_30_0 k x0 (wrap64 (x1 + (1 : Int))))) (none)) (none)) (k (.bool true) ⟨[], []⟩) : Option Unit) := by
 simp only [← wrapA_i64]
 kernel_rfl
theorem w_30 (l0 : List S60) (k : AV tau → Mem tau → Option Unit) : fnA E_30 C_30 D_30 Tryd.f30 B_30 [.sl 60 l0] ⟨[], []⟩ k = (brA (decide (((l0.length : Nat) : Int) > (10 : Int))) (k (.bool false) ⟨[], []⟩) (LP_30_0 k l0 (0 : Int)) : Option Unit) := by kernel_rfl
def S_30_0 (N : Nat) : Prop := ∀ (k : AV tau → Mem tau → Option Unit) (x0 : (List S60)) (x1 : Int) (r : Bool), spec_ProgOk.l0 N (x0) (x1) = some r → k (.bool (r)) ⟨[], []⟩ = some () → LP_30_0 k x0 x1 = some ()
theorem L_30 (N : Nat) : S_30_0 N := by
 induction N using Nat.strongRecOn with | _ N0 ih =>
 skip
 intro k x0 x1 r h hk
 rcases N0 with _ | N
 · cases h
 first | rw [spec_ProgOk.l0] at h | simp only [spec_ProgOk.l0] at h | (unfold spec_ProgOk.l0 at h; dsimp only at h)
 refine loop_fold mC_30 mD_30 ?_
 refine (w_30_0 k x0 x1).trans ?_
 refine br_eti h rfl (fun c11 h => ?_) (fun c11 h => ?_)
 ·cases h; exact hk
 refine br_g h rfl (fun c12 h => ?_)
 refine br_t (by first | (simp [c11]; done) | (simp; omega) | (simp only [List.length_append, List.length_cons, List.length_nil, List.length_take, List.length_drop] at c11 ⊢; simp; omega) | (simp only [List.length_append, List.length_cons, List.length_nil, List.length_take, List.length_drop] at c11; simp; omega) | (simp_all; done)) ?_
 refine call_h N h (fun t0 e13 h => ?_)
 refine br_etn h (congrArg not dect) (fun c14 h => ?_) (fun c14 h => ?_)
 ·cases h; exact hk
 exact (ih N (by omega)) _ _ _ _ h hk
theorem okc_30 (args : List (AV tau)) (m : Mem tau) (κ : AV tau → Mem tau → Option Unit) (hh : c_30 args m κ = some ()) : ∃ av m1, κ av m1 = some () ∧ ToldA Tryd.prog TT (pnT 30) 30 args m av m1 := by
 obtain ⟨bx_, rw_⟩ := m
 unfold c_30 at hh
 simp only at hh
 split at hh
 case h_2 => cases hh
 rename_i b0
 obtain ⟨l0, hx0, hh0⟩ := bO_some hh
 have ex0 := asSl_some hx0
 subst ex0
 obtain ⟨N, t, h, hκ⟩ := callX_some hh0
 refine ⟨_, _, hκ, told_of_run pq okC_30 (fun _ _ _ => drawA_ok pq okC_30 hmix) (E := E_30) (fn := Tryd.f30) (body := B_30) (by kernel_rfl) (by kernel_rfl) (by kernel_rfl) (by rfl) (by exact Nat.le_of_ble_eq_true rfl) (fun k hk => ?_)⟩
 refine (w_30 l0 k).trans ?_
 replace h : spec_ProgOk.f N l0 = some t := h
 unfold spec_ProgOk.f at h
 refine br_eti h rfl (fun c15 h => ?_) (fun c15 h => ?_)
 ·exact (L_30 N) _ _ _ _ h hk
 cases h; exact hk
noncomputable def C_64 : Ctr tau Unit := ctrS 30 c_30 C_30
noncomputable def D_64 : Drw tau := drawA E_64 C_64
theorem okC_64 : CtrOk Tryd.prog TT pnT C_64 := ctrS_ok okC_30 okc_30
theorem mC_64 : CtrMono C_64 := ctrS_mono mC_30 mc_30
theorem mD_64 : DrMono D_64 := drawA_mono mC_64
noncomputable def B_64 : Code := Tryd.f64.body.getD .skip
theorem mc_64 (args : List (AV tau)) (m : Mem tau) (k k' : AV tau → Mem tau → Option Unit) (hk : ∀ av m, k av m = some () → k' av m = some ()) (h : c_64 args m k = some ()) : c_64 args m k' = some () := by
 unfold c_64 at h ⊢
 split at h
 · repeat' first | exact callX_mono (fun _ h => hk _ _ h) h | refine bO_mono (fun _ h => ?_) h
 · cases h
theorem w_64 (a0 : Int) (a1 : Int) (a2 : Int) (k : AV tau → Mem tau → Option Unit) : fnA E_64 C_64 D_64 Tryd.f64 B_64 [.int .i64 a0, .int .i64 a1, .int .i64 a2] ⟨[], []⟩ k = (brA (decide (a0 ≥ a1)) (k (.bool (decide (a0 ≤ a2))) ⟨[], []⟩) (k (.bool false) ⟨[], []⟩) : Option Unit) := by kernel_rfl
theorem okc_64 (args : List (AV tau)) (m : Mem tau) (κ : AV tau → Mem tau → Option Unit) (hh : c_64 args m κ = some ()) : ∃ av m1, κ av m1 = some () ∧ ToldA Tryd.prog TT (pnT 64) 64 args m av m1 := by
 obtain ⟨bx_, rw_⟩ := m
 unfold c_64 at hh
 simp only at hh
 split at hh
 case h_2 => cases hh
 rename_i b0 b1 b2
 obtain ⟨a0, hx0, hh0⟩ := bO_some hh
 obtain ⟨a1, hx1, hh1⟩ := bO_some hh0
 obtain ⟨a2, hx2, hh2⟩ := bO_some hh1
 have ex0 := asI_some hx0
 have ex1 := asI_some hx1
 have ex2 := asI_some hx2
 subst ex0 ex1 ex2
 obtain ⟨N, t, h, hκ⟩ := callX_some hh2
 refine ⟨_, _, hκ, told_of_run pq okC_64 (fun _ _ _ => drawA_ok pq okC_64 hmix) (E := E_64) (fn := Tryd.f64) (body := B_64) (by kernel_rfl) (by kernel_rfl) (by kernel_rfl) (by rfl) (by exact Nat.le_of_ble_eq_true rfl) (fun k hk => ?_)⟩
 refine (w_64 a0 a1 a2 k).trans ?_
 replace h : impl_in.f a0 a1 a2 = some t := h
 unfold impl_in.f at h
 refine br_eti h rfl (fun c2 h => ?_) (fun c2 h => ?_)
 ·cases h; exact hk
 cases h; exact hk
noncomputable def C_93 : Ctr tau Unit := ctrS 64 c_64 C_64
noncomputable def D_93 : Drw tau := drawA E_93 C_93
theorem okC_93 : CtrOk Tryd.prog TT pnT C_93 := ctrS_ok okC_64 okc_64
theorem mC_93 : CtrMono C_93 := ctrS_mono mC_64 mc_64
theorem mD_93 : DrMono D_93 := drawA_mono mC_93
noncomputable def B_93 : Code := Tryd.f93.body.getD .skip
theorem mc_93 (args : List (AV tau)) (m : Mem tau) (k k' : AV tau → Mem tau → Option Unit) (hk : ∀ av m, k av m = some () → k' av m = some ()) (h : c_93 args m k = some ()) : c_93 args m k' = some () := by
 unfold c_93 at h ⊢
 split at h
 · repeat' first | exact callX_mono (fun _ h => hk _ _ h) h | refine bO_mono (fun _ h => ?_) h
 · cases h
theorem w_93 (a0 : Int) (k : AV tau → Mem tau → Option Unit) : fnA E_93 C_93 D_93 Tryd.f93 B_93 [.int .i64 a0] ⟨[], []⟩ k = (callX (fun n => impl_in.f a0 (0 : Int) (3 : Int)) fun t0 => k (.bool t0) ⟨[], []⟩ : Option Unit) := by kernel_rfl
theorem okc_93 (args : List (AV tau)) (m : Mem tau) (κ : AV tau → Mem tau → Option Unit) (hh : c_93 args m κ = some ()) : ∃ av m1, κ av m1 = some () ∧ ToldA Tryd.prog TT (pnT 93) 93 args m av m1 := by
 obtain ⟨bx_, rw_⟩ := m
 unfold c_93 at hh
 simp only at hh
 split at hh
 case h_2 => cases hh
 rename_i b0
 obtain ⟨a0, hx0, hh0⟩ := bO_some hh
 have ex0 := asI_some hx0
 subst ex0
 obtain ⟨N, t, h, hκ⟩ := callX_some hh0
 refine ⟨_, _, hκ, told_of_run pq okC_93 (fun _ _ _ => drawA_ok pq okC_93 hmix) (E := E_93) (fn := Tryd.f93) (body := B_93) (by kernel_rfl) (by kernel_rfl) (by kernel_rfl) (by rfl) (by exact Nat.le_of_ble_eq_true rfl) (fun k hk => ?_)⟩
 refine (w_93 a0 k).trans ?_
 replace h : impl_insOk_1.f a0 = some t := h
 unfold impl_insOk_1.f at h
 refine call_h 0 h (fun t0 e2 h => ?_)
 cases h; exact hk
noncomputable def C_94 : Ctr tau Unit := ctrS 93 c_93 C_93
noncomputable def D_94 : Drw tau := drawA E_94 C_94
theorem okC_94 : CtrOk Tryd.prog TT pnT C_94 := ctrS_ok okC_93 okc_93
theorem mC_94 : CtrMono C_94 := ctrS_mono mC_93 mc_93
theorem mD_94 : DrMono D_94 := drawA_mono mC_94
noncomputable def B_94 : Code := Tryd.f94.body.getD .skip
theorem mc_94 (args : List (AV tau)) (m : Mem tau) (k k' : AV tau → Mem tau → Option Unit) (hk : ∀ av m, k av m = some () → k' av m = some ()) (h : c_94 args m k = some ()) : c_94 args m k' = some () := by
 unfold c_94 at h ⊢
 split at h
 · repeat' first | exact callX_mono (fun _ h => hk _ _ h) h | refine bO_mono (fun _ h => ?_) h
 · cases h
theorem w_94 (a0 : Int) (k : AV tau → Mem tau → Option Unit) : fnA E_94 C_94 D_94 Tryd.f94 B_94 [.int .i64 a0] ⟨[], []⟩ k = (callX (fun n => impl_in.f a0 (0 : Int) (3 : Int)) fun t0 => k (.bool t0) ⟨[], []⟩ : Option Unit) := by kernel_rfl
theorem okc_94 (args : List (AV tau)) (m : Mem tau) (κ : AV tau → Mem tau → Option Unit) (hh : c_94 args m κ = some ()) : ∃ av m1, κ av m1 = some () ∧ ToldA Tryd.prog TT (pnT 94) 94 args m av m1 := by
 obtain ⟨bx_, rw_⟩ := m
 unfold c_94 at hh
 simp only at hh
 split at hh
 case h_2 => cases hh
 rename_i b0
 obtain ⟨a0, hx0, hh0⟩ := bO_some hh
 have ex0 := asI_some hx0
 subst ex0
 obtain ⟨N, t, h, hκ⟩ := callX_some hh0
 refine ⟨_, _, hκ, told_of_run pq okC_94 (fun _ _ _ => drawA_ok pq okC_94 hmix) (E := E_94) (fn := Tryd.f94) (body := B_94) (by kernel_rfl) (by kernel_rfl) (by kernel_rfl) (by rfl) (by exact Nat.le_of_ble_eq_true rfl) (fun k hk => ?_)⟩
 refine (w_94 a0 k).trans ?_
 replace h : impl_insOk_2.f a0 = some t := h
 unfold impl_insOk_2.f at h
 refine call_h 0 h (fun t0 e2 h => ?_)
 cases h; exact hk
noncomputable def C_74 : Ctr tau Unit := ctrS 94 c_94 C_94
noncomputable def D_74 : Drw tau := drawA E_74 C_74
theorem okC_74 : CtrOk Tryd.prog TT pnT C_74 := ctrS_ok okC_94 okc_94
theorem mC_74 : CtrMono C_74 := ctrS_mono mC_94 mc_94
theorem mD_74 : DrMono D_74 := drawA_mono mC_74
noncomputable def B_74 : Code := Tryd.f74.body.getD .skip
theorem mc_74 (args : List (AV tau)) (m : Mem tau) (k k' : AV tau → Mem tau → Option Unit) (hk : ∀ av m, k av m = some () → k' av m = some ()) (h : c_74 args m k = some ()) : c_74 args m k' = some () := by
 unfold c_74 at h ⊢
 split at h
 · repeat' first | exact callX_mono (fun _ h => hk _ _ h) h | refine bO_mono (fun _ h => ?_) h
 · cases h
theorem w_74 (a0_0 : Int) (a0_1 : Int) (a0_2 : Int) (a0_3 : Int) (k : AV tau → Mem tau → Option Unit) : fnA E_74 C_74 D_74 Tryd.f74 B_74 [.agg [.int .i64 a0_0, .int .i64 a0_1, .int .i64 a0_2, .int .i64 a0_3]] ⟨[], []⟩ k = (brA (decide (a0_0 = (1 : Int))) (callX (fun n => impl_insOk_1.f a0_1) fun t0 => brA t0 (callX (fun n => impl_insOk_2.f a0_2) fun t1 => brA t1 (k (.bool (decide (a0_3 = (0 : Int)))) ⟨[], []⟩) (k (.bool false) ⟨[], []⟩)) (k (.bool false) ⟨[], []⟩)) (brA (decide (a0_0 = (2 : Int))) (callX (fun n => impl_insOk_2.f a0_1) fun t2 => brA t2 (callX (fun n => impl_insOk_1.f a0_2) fun t3 => brA t3 (k (.bool (decide (a0_3 = (0 : Int)))) ⟨[], []⟩) (k (.bool false) ⟨[], []⟩)) (k (.bool false) ⟨[], []⟩)) (brA (decide (a0_0 = (3 : Int))) (callX (fun n => impl_insOk_1.f a0_1) fun t4 => brA t4 (brA (decide (a0_2 = (0 : Int))) (callX (fun n => impl_in.f a0_3 (-(1000000 : Int)) (1000000 : Int)) fun t5 => k (.bool t5) ⟨[], []⟩) (k (.bool false) ⟨[], []⟩)) (k (.bool false) ⟨[], []⟩)) (brA (decide (a0_0 = (4 : Int))) (brA (decide (a0_0 = (4 : Int))) (callX (fun n => impl_insOk_1.f a0_1) fun t6 => brA t6 (callX (fun n => impl_insOk_1.f a0_2) fun t7 => brA t7 (k (.bool (decide (a0_3 = (0 : Int)))) ⟨[], []⟩) (k (.bool false) ⟨[], []⟩)) (k (.bool false) ⟨[], []⟩)) (brA (decide (a0_0 = (6 : Int))) (callX (fun n => impl_insOk_1.f a0_1) fun t8 => brA t8 (callX (fun n => impl_insOk_1.f a0_2) fun t9 => brA t9 (callX (fun n => impl_in.f a0_3 (1 : Int) (10 : Int)) fun t10 => k (.bool t10) ⟨[], []⟩) (k (.bool false) ⟨[], []⟩)) (k (.bool false) ⟨[], []⟩)) (brA (decide (a0_0 = (7 : Int))) (brA (decide (a0_1 = (0 : Int))) (brA (decide (a0_2 = (0 : Int))) (k (.bool (decide (a0_3 = (0 : Int)))) ⟨[], []⟩) (k (.bool false) ⟨[], []⟩)) (k (.bool false) ⟨[], []⟩)) (k (.bool false) ⟨[], []⟩)))) (brA (decide (a0_0 = (5 : Int))) (callX (fun n => impl_insOk_1.f a0_1) fun t11 => brA t11 (callX (fun n => impl_insOk_1.f a0_2) fun t12 => brA t12 (k (.bool (decide (a0_3 = (0 : Int)))) ⟨[], []⟩) (k (.bool false) ⟨[], []⟩)) (k (.bool false) ⟨[], []⟩)) (brA (decide (a0_0 = (6 : Int))) (callX (fun n => impl_insOk_1.f a0_1) fun t13 => brA t13 (callX (fun n => impl_insOk_1.f a0_2) fun t14 => brA t14 (callX (fun n => impl_in.f a0_3 (1 : Int) (10 : Int)) fun t15 => k (.bool t15) ⟨[], []⟩) (k (.bool false) ⟨[], []⟩)) (k (.bool false) ⟨[], []⟩)) (brA (decide (a0_0 = (7 : Int))) (brA (decide (a0_1 = (0 : Int))) (brA (decide (a0_2 = (0 : Int))) (k (.bool (decide (a0_3 = (0 : Int)))) ⟨[], []⟩) (k (.bool false) ⟨[], []⟩)) (k (.bool false) ⟨[], []⟩)) (k (.bool false) ⟨[], []⟩))))))) : Option Unit) := by kernel_rfl
theorem okc_74 (args : List (AV tau)) (m : Mem tau) (κ : AV tau → Mem tau → Option Unit) (hh : c_74 args m κ = some ()) : ∃ av m1, κ av m1 = some () ∧ ToldA Tryd.prog TT (pnT 74) 74 args m av m1 := by
 obtain ⟨bx_, rw_⟩ := m
 unfold c_74 at hh
 simp only at hh
 split at hh
 case h_2 => cases hh
 rename_i b0 b1 b2 b3
 obtain ⟨a0_0, hx0, hh0⟩ := bO_some hh
 obtain ⟨a0_1, hx1, hh1⟩ := bO_some hh0
 obtain ⟨a0_2, hx2, hh2⟩ := bO_some hh1
 obtain ⟨a0_3, hx3, hh3⟩ := bO_some hh2
 have ex0 := asI_some hx0
 have ex1 := asI_some hx1
 have ex2 := asI_some hx2
 have ex3 := asI_some hx3
 subst ex0 ex1 ex2 ex3
 obtain ⟨N, t, h, hκ⟩ := callX_some hh3
 refine ⟨_, _, hκ, told_of_run pq okC_74 (fun _ _ _ => drawA_ok pq okC_74 hmix) (E := E_74) (fn := Tryd.f74) (body := B_74) (by kernel_rfl) (by kernel_rfl) (by kernel_rfl) (by rfl) (by exact Nat.le_of_ble_eq_true rfl) (fun k hk => ?_)⟩
 refine (w_74 a0_0 a0_1 a0_2 a0_3 k).trans ?_
 replace h : impl_insOk.f N a0_0 a0_1 a0_2 a0_3 = some t := h
 unfold impl_insOk.f at h
 refine br_ite h rfl (fun c45 h => ?_) (fun c45 h => ?_)
 ·refine call_h 0 h (fun t0 e46 h => ?_)
  refine br_eti h dect (fun c47 h => ?_) (fun c47 h => ?_)
  ·cases h; exact hk
  refine call_h 0 h (fun t1 e48 h => ?_)
  refine br_eti h dect (fun c49 h => ?_) (fun c49 h => ?_)
  ·cases h; exact hk
  cases h; exact hk
 refine br_ite h rfl (fun c50 h => ?_) (fun c50 h => ?_)
 ·refine call_h 0 h (fun t2 e51 h => ?_)
  refine br_eti h dect (fun c52 h => ?_) (fun c52 h => ?_)
  ·cases h; exact hk
  refine call_h 0 h (fun t3 e53 h => ?_)
  refine br_eti h dect (fun c54 h => ?_) (fun c54 h => ?_)
  ·cases h; exact hk
  cases h; exact hk
 refine br_ite h rfl (fun c55 h => ?_) (fun c55 h => ?_)
 ·refine call_h 0 h (fun t4 e56 h => ?_)
  refine br_eti h dect (fun c57 h => ?_) (fun c57 h => ?_)
  ·cases h; exact hk
  refine br_eti h rfl (fun c58 h => ?_) (fun c58 h => ?_)
  ·cases h; exact hk
  refine call_h 0 h (fun t5 e59 h => ?_)
  cases h; exact hk
 refine br_ite h rfl (fun c60 h => ?_) (fun c60 h => ?_)
 ·rcases N with _ | N
  · cases h
  first | rw [impl_insOk.j0] at h | simp only [impl_insOk.j0] at h | (unfold impl_insOk.j0 at h; dsimp only at h)
  refine br_ite h (by first | rfl | exact dect | exact (congrArg not dect) | (simp; done) | (simp [beqI]; done) | (simp; omega)) (fun c61 h => ?_) (fun c61 h => ?_)
  ·refine call_h 0 h (fun t6 e62 h => ?_)
   refine br_eti h dect (fun c63 h => ?_) (fun c63 h => ?_)
   ·cases h; exact hk
   refine call_h 0 h (fun t7 e64 h => ?_)
   refine br_eti h dect (fun c65 h => ?_) (fun c65 h => ?_)
   ·cases h; exact hk
   cases h; exact hk
  refine br_eti h rfl (fun c66 h => ?_) (fun c66 h => ?_)
  ·refine br_eti h rfl (fun c67 h => ?_) (fun c67 h => ?_)
   ·cases h; exact hk
   refine br_eti h rfl (fun c68 h => ?_) (fun c68 h => ?_)
   ·cases h; exact hk
   refine br_eti h rfl (fun c69 h => ?_) (fun c69 h => ?_)
   ·cases h; exact hk
   cases h; exact hk
  refine call_h 0 h (fun t8 e70 h => ?_)
  refine br_eti h dect (fun c71 h => ?_) (fun c71 h => ?_)
  ·cases h; exact hk
  refine call_h 0 h (fun t9 e72 h => ?_)
  refine br_eti h dect (fun c73 h => ?_) (fun c73 h => ?_)
  ·cases h; exact hk
  refine call_h 0 h (fun t10 e74 h => ?_)
  cases h; exact hk
 rcases N with _ | N
 · cases h
 first | rw [impl_insOk.j0] at h | simp only [impl_insOk.j0] at h | (unfold impl_insOk.j0 at h; dsimp only at h)
 refine br_ite h (by first | rfl | exact dect | exact (congrArg not dect) | (simp; done) | (simp [beqI]; done) | (simp; omega)) (fun c75 h => ?_) (fun c75 h => ?_)
 ·refine call_h 0 h (fun t11 e76 h => ?_)
  refine br_eti h dect (fun c77 h => ?_) (fun c77 h => ?_)
  ·cases h; exact hk
  refine call_h 0 h (fun t12 e78 h => ?_)
  refine br_eti h dect (fun c79 h => ?_) (fun c79 h => ?_)
  ·cases h; exact hk
  cases h; exact hk
 refine br_eti h rfl (fun c80 h => ?_) (fun c80 h => ?_)
 ·refine br_eti h rfl (fun c81 h => ?_) (fun c81 h => ?_)
  ·cases h; exact hk
  refine br_eti h rfl (fun c82 h => ?_) (fun c82 h => ?_)
  ·cases h; exact hk
  refine br_eti h rfl (fun c83 h => ?_) (fun c83 h => ?_)
  ·cases h; exact hk
  cases h; exact hk
 refine call_h 0 h (fun t13 e84 h => ?_)
 refine br_eti h dect (fun c85 h => ?_) (fun c85 h => ?_)
 ·cases h; exact hk
 refine call_h 0 h (fun t14 e86 h => ?_)
 refine br_eti h dect (fun c87 h => ?_) (fun c87 h => ?_)
 ·cases h; exact hk
 refine call_h 0 h (fun t15 e88 h => ?_)
 cases h; exact hk
noncomputable def C_29 : Ctr tau Unit := ctrS 74 c_74 C_74
noncomputable def D_29 : Drw tau := drawA E_29 C_29
theorem okC_29 : CtrOk Tryd.prog TT pnT C_29 := ctrS_ok okC_74 okc_74
theorem mC_29 : CtrMono C_29 := ctrS_mono mC_74 mc_74
theorem mD_29 : DrMono D_29 := drawA_mono mC_29
noncomputable def B_29 : Code := Tryd.f29.body.getD .skip
theorem mc_29 (args : List (AV tau)) (m : Mem tau) (k k' : AV tau → Mem tau → Option Unit) (hk : ∀ av m, k av m = some () → k' av m = some ()) (h : c_29 args m k = some ()) : c_29 args m k' = some () := by
 unfold c_29 at h ⊢
 split at h
 · repeat' first | exact callX_mono (fun _ h => hk _ _ h) h | refine bO_mono (fun _ h => ?_) h
 · cases h
noncomputable def K_29_0 (k : AV tau → Mem tau → Option Unit) : Kon tau := (kBlock 0 (kS E_29 C_29 D_29 (codeP B_29 [1, 1]) (kEnd E_29 Tryd.f29 k)))
def st_29_0 (x0 : (List S60)) (x1 : (List S60)) (x2 : Int) (x3 : Int) : St tau := ⟨tmL 18 0 [(0, .sl 60 x0), (5, .sl 60 x1), (6, .int .i64 x2), (7, .int .i64 x3)], ⟨[], []⟩⟩
noncomputable def LP_29_0 (k : AV tau → Mem tau → Option Unit) (x0 : (List S60)) (x1 : (List S60)) (x2 : Int) (x3 : Int) : Option Unit := loopA E_29 (codeA E_29 C_29 D_29 (codeP B_29 [1, 0, 1, 0, 0])) (codeP B_29 [1, 0, 1, 0, 0]) (K_29_0 k) (st_29_0 x0 x1 x2 x3)
theorem w_29_0 (k : AV tau → Mem tau → Option Unit) (x0 : (List S60)) (x1 : (List S60)) (x2 : Int) (x3 : Int) : codeA E_29 C_29 D_29 (codeP B_29 [1, 0, 1, 0, 0]) (kL E_29 C_29 D_29 (codeP B_29 [1, 0, 1, 0, 0]) (K_29_0 k)) (st_29_0 x0 x1 x2 x3) = (brA (decide (x3 < x2)) (brA (decide ((0 : Int) ≤ x3)) (brA (decide (x3 < ((x1.length : Nat) : Int))) (callX (fun n => impl_insOk.f n ((rd_T60 x1 x3).f0) ((rd_T60 x1 x3).f1) ((rd_T60 x1 x3).f2) ((rd_T60 x1 x3).f3)) fun t0 => brA (!t0) (k (.bool false) ⟨[], []⟩) (LP_29_0 k x0 x1 x2 (wrap64 (x3 + (1 : Int))))) (none)) (none)) (k (.bool (decide (((x0.length : Nat) : Int) ≤ (10 : Int)))) ⟨[], []⟩) : Option Unit) := by
 simp only [← wrapA_i64]
 kernel_rfl
theorem w_29 (l0 : List S60) (k : AV tau → Mem tau → Option Unit) : fnA E_29 C_29 D_29 Tryd.f29 B_29 [.sl 60 l0] ⟨[], []⟩ k = (LP_29_0 k l0 l0 ((l0.length : Nat) : Int) (0 : Int) : Option Unit) := by kernel_rfl
def S_29_0 (N : Nat) : Prop := ∀ (k : AV tau → Mem tau → Option Unit) (x0 : (List S60)) (x1 : (List S60)) (x2 : Int) (x3 : Int) (r : Bool), impl_ProgOk.l0 N (x0) (x1) (x2) (x3) = some r → k (.bool (r)) ⟨[], []⟩ = some () → LP_29_0 k x0 x1 x2 x3 = some ()
theorem L_29 (N : Nat) : S_29_0 N := by
 induction N using Nat.strongRecOn with | _ N0 ih =>
 skip
 intro k x0 x1 x2 x3 r h hk
 rcases N0 with _ | N
 · cases h
 first | rw [impl_ProgOk.l0] at h | simp only [impl_ProgOk.l0] at h | (unfold impl_ProgOk.l0 at h; dsimp only at h)
 refine loop_fold mC_29 mD_29 ?_
 refine (w_29_0 k x0 x1 x2 x3).trans ?_
 refine br_eti h rfl (fun c11 h => ?_) (fun c11 h => ?_)
 ·cases h; exact hk
 refine br_g h rfl (fun c12 h => ?_)
 refine br_g h rfl (fun c13 h => ?_)
 refine call_h N h (fun t0 e14 h => ?_)
 refine br_etn h (congrArg not dect) (fun c15 h => ?_) (fun c15 h => ?_)
 ·cases h; exact hk
 exact (ih N (by omega)) _ _ _ _ _ _ h hk
theorem okc_29 (args : List (AV tau)) (m : Mem tau) (κ : AV tau → Mem tau → Option Unit) (hh : c_29 args m κ = some ()) : ∃ av m1, κ av m1 = some () ∧ ToldA Tryd.prog TT (pnT 29) 29 args m av m1 := by
 obtain ⟨bx_, rw_⟩ := m
 unfold c_29 at hh
 simp only at hh
 split at hh
 case h_2 => cases hh
 rename_i b0
 obtain ⟨l0, hx0, hh0⟩ := bO_some hh
 have ex0 := asSl_some hx0
 subst ex0
 obtain ⟨N, t, h, hκ⟩ := callX_some hh0
 refine ⟨_, _, hκ, told_of_run pq okC_29 (fun _ _ _ => drawA_ok pq okC_29 hmix) (E := E_29) (fn := Tryd.f29) (body := B_29) (by kernel_rfl) (by kernel_rfl) (by kernel_rfl) (by rfl) (by exact Nat.le_of_ble_eq_true rfl) (fun k hk => ?_)⟩
 refine (w_29 l0 k).trans ?_
 replace h : impl_ProgOk.f N l0 = some t := h
 unfold impl_ProgOk.f at h
 exact (L_29 N) _ _ _ _ _ _ h hk
noncomputable def C_54 : Ctr tau Unit := ctrS 29 c_29 C_29
noncomputable def D_54 : Drw tau := drawA E_54 C_54
theorem okC_54 : CtrOk Tryd.prog TT pnT C_54 := ctrS_ok okC_29 okc_29
theorem mC_54 : CtrMono C_54 := ctrS_mono mC_29 mc_29
theorem mD_54 : DrMono D_54 := drawA_mono mC_54
noncomputable def B_54 : Code := Tryd.f54.body.getD .skip
theorem mc_54 (args : List (AV tau)) (m : Mem tau) (k k' : AV tau → Mem tau → Option Unit) (hk : ∀ av m, k av m = some () → k' av m = some ()) (h : c_54 args m k = some ()) : c_54 args m k' = some () := by
 unfold c_54 at h ⊢
 split at h
 · repeat' first | exact callX_mono (fun _ h => hk _ _ h) h | refine bO_mono (fun _ h => ?_) h
 · cases h
theorem w_54 (l0 : List S60) (k : AV tau → Mem tau → Option Unit) : fnA E_54 C_54 D_54 Tryd.f54 B_54 [.sl 60 l0] ⟨[], []⟩ k = (brA (decide (((l0.length : Nat) : Int) = (0 : Int))) (k (.own 0 0) ⟨[], [some ⟨60, ([] : List S60), 0⟩]⟩) (brA (decide ((Int.toNat ((l0.length : Nat) : Int)) ≤ 8796093022208)) (k (.own 0 0) ⟨[], [some ⟨60, ((List.take ((List.replicate (Int.toNat ((l0.length : Nat) : Int)) (⟨(0 : Int), (0 : Int), (0 : Int), (0 : Int)⟩ : S60)).length) l0) ++ (List.drop l0.length (List.replicate (Int.toNat ((l0.length : Nat) : Int)) (⟨(0 : Int), (0 : Int), (0 : Int), (0 : Int)⟩ : S60)))), 0⟩]⟩) (none)) : Option Unit) := by kernel_rfl
theorem okc_54 (args : List (AV tau)) (m : Mem tau) (κ : AV tau → Mem tau → Option Unit) (hh : c_54 args m κ = some ()) : ∃ av m1, κ av m1 = some () ∧ ToldA Tryd.prog TT (pnT 54) 54 args m av m1 := by
 obtain ⟨bx_, rw_⟩ := m
 unfold c_54 at hh
 simp only at hh
 split at hh
 case h_2 => cases hh
 rename_i b0
 obtain ⟨l0, hx0, hh0⟩ := bO_some hh
 have ex0 := asSl_some hx0
 subst ex0
 obtain ⟨N, t, h, hκ⟩ := callX_some hh0
 refine ⟨_, _, hκ, told_of_run pq okC_54 (fun _ _ _ => drawA_ok pq okC_54 hmix) (E := E_54) (fn := Tryd.f54) (body := B_54) (by kernel_rfl) (by kernel_rfl) (by kernel_rfl) (by rfl) (by exact Nat.le_of_ble_eq_true rfl) (fun k hk => ?_)⟩
 refine (w_54 l0 k).trans ?_
 replace h : impl_copied_impl_Ins.f l0 = some t := h
 unfold impl_copied_impl_Ins.f at h
 refine ite_x h (fun c1 h => ?_) (fun _ h => by cases h)
 cases h
 exact copied_of (α := S60) l0 _ _ (k := fun q : List S60 => k (.own 0 0) ⟨[], [some ⟨60, q, 0⟩]⟩) c1 hk
noncomputable def C_55 : Ctr tau Unit := ctrS 54 c_54 C_54
noncomputable def D_55 : Drw tau := drawA E_55 C_55
theorem okC_55 : CtrOk Tryd.prog TT pnT C_55 := ctrS_ok okC_54 okc_54
theorem mC_55 : CtrMono C_55 := ctrS_mono mC_54 mc_54
theorem mD_55 : DrMono D_55 := drawA_mono mC_55
noncomputable def B_55 : Code := Tryd.f55.body.getD .skip
theorem mc_55 (args : List (AV tau)) (m : Mem tau) (k k' : AV tau → Mem tau → Option Unit) (hk : ∀ av m, k av m = some () → k' av m = some ()) (h : c_55 args m k = some ()) : c_55 args m k' = some () := by
 unfold c_55 at h ⊢
 split at h
 · repeat' first | exact callX_mono (fun _ h => hk _ _ h) h | refine bO_mono (fun _ h => ?_) h
 · cases h
theorem w_55 (a0_0 : Int) (a0_1 : Int) (a0_2 : Int) (a0_3 : Int) (a1_0 : Int) (a1_1 : Int) (a1_2 : Int) (a1_3 : Int) (k : AV tau → Mem tau → Option Unit) : fnA E_55 C_55 D_55 Tryd.f55 B_55 [.agg [.int .i64 a0_0, .int .i64 a0_1, .int .i64 a0_2, .int .i64 a0_3], .agg [.int .i64 a1_0, .int .i64 a1_1, .int .i64 a1_2, .int .i64 a1_3]] ⟨[], []⟩ k = (brA (!(decide (a0_0 = a1_0))) (k (.bool false) ⟨[], []⟩) (brA (!(decide (a0_1 = a1_1))) (k (.bool false) ⟨[], []⟩) (brA (!(decide (a0_2 = a1_2))) (k (.bool false) ⟨[], []⟩) (brA (!(decide (a0_3 = a1_3))) (k (.bool false) ⟨[], []⟩) (k (.bool true) ⟨[], []⟩)))) : Option Unit) := by kernel_rfl
theorem okc_55 (args : List (AV tau)) (m : Mem tau) (κ : AV tau → Mem tau → Option Unit) (hh : c_55 args m κ = some ()) : ∃ av m1, κ av m1 = some () ∧ ToldA Tryd.prog TT (pnT 55) 55 args m av m1 := by
 obtain ⟨bx_, rw_⟩ := m
 unfold c_55 at hh
 simp only at hh
 split at hh
 case h_2 => cases hh
 rename_i b0 b1 b2 b3 b4 b5 b6 b7
 obtain ⟨a0_0, hx0, hh0⟩ := bO_some hh
 obtain ⟨a0_1, hx1, hh1⟩ := bO_some hh0
 obtain ⟨a0_2, hx2, hh2⟩ := bO_some hh1
 obtain ⟨a0_3, hx3, hh3⟩ := bO_some hh2
 obtain ⟨a1_0, hx4, hh4⟩ := bO_some hh3
 obtain ⟨a1_1, hx5, hh5⟩ := bO_some hh4
 obtain ⟨a1_2, hx6, hh6⟩ := bO_some hh5
 obtain ⟨a1_3, hx7, hh7⟩ := bO_some hh6
 have ex0 := asI_some hx0
 have ex1 := asI_some hx1
 have ex2 := asI_some hx2
 have ex3 := asI_some hx3
 have ex4 := asI_some hx4
 have ex5 := asI_some hx5
 have ex6 := asI_some hx6
 have ex7 := asI_some hx7
 subst ex0 ex1 ex2 ex3 ex4 ex5 ex6 ex7
 obtain ⟨N, t, h, hκ⟩ := callX_some hh7
 refine ⟨_, _, hκ, told_of_run pq okC_55 (fun _ _ _ => drawA_ok pq okC_55 hmix) (E := E_55) (fn := Tryd.f55) (body := B_55) (by kernel_rfl) (by kernel_rfl) (by kernel_rfl) (by rfl) (by exact Nat.le_of_ble_eq_true rfl) (fun k hk => ?_)⟩
 refine (w_55 a0_0 a0_1 a0_2 a0_3 a1_0 a1_1 a1_2 a1_3 k).trans ?_
 replace h : laws_eqIns.f a0_0 a0_1 a0_2 a0_3 a1_0 a1_1 a1_2 a1_3 = some t := h
 unfold laws_eqIns.f at h
 refine br_etn h rfl (fun c5 h => ?_) (fun c5 h => ?_)
 ·cases h; exact hk
 refine br_etn h rfl (fun c6 h => ?_) (fun c6 h => ?_)
 ·cases h; exact hk
 refine br_etn h rfl (fun c7 h => ?_) (fun c7 h => ?_)
 ·cases h; exact hk
 refine br_itn h rfl (fun c8 h => ?_) (fun c8 h => ?_)
 ·cases h; exact hk
 cases h; exact hk
noncomputable def C_13 : Ctr tau Unit := ctrS 55 c_55 C_55
noncomputable def D_13 : Drw tau := drawA E_13 C_13
theorem okC_13 : CtrOk Tryd.prog TT pnT C_13 := ctrS_ok okC_55 okc_55
theorem mC_13 : CtrMono C_13 := ctrS_mono mC_55 mc_55
theorem mD_13 : DrMono D_13 := drawA_mono mC_13
noncomputable def B_13 : Code := Tryd.f13.body.getD .skip
theorem mc_13 (args : List (AV tau)) (m : Mem tau) (k k' : AV tau → Mem tau → Option Unit) (hk : ∀ av m, k av m = some () → k' av m = some ()) (h : c_13 args m k = some ()) : c_13 args m k' = some () := by
 unfold c_13 at h ⊢
 split at h
 · repeat' first | exact callX_mono (fun _ h => hk _ _ h) h | refine bO_mono (fun _ h => ?_) h
 · cases h
noncomputable def K_13_0 (k : AV tau → Mem tau → Option Unit) : Kon tau := (kBlock 0 (kS E_13 C_13 D_13 (codeP B_13 [1, 1, 1]) (kEnd E_13 Tryd.f13 k)))
def st_13_0 (x0 : (List S60)) (x1 : (List S60)) (x2 : Int) : St tau := ⟨tmL 27 0 [(0, .sl 60 x0), (1, .sl 60 x1), (5, .int .i64 x2)], ⟨[], []⟩⟩
noncomputable def LP_13_0 (k : AV tau → Mem tau → Option Unit) (x0 : (List S60)) (x1 : (List S60)) (x2 : Int) : Option Unit := loopA E_13 (codeA E_13 C_13 D_13 (codeP B_13 [1, 1, 0, 1, 0, 0])) (codeP B_13 [1, 1, 0, 1, 0, 0]) (K_13_0 k) (st_13_0 x0 x1 x2)
theorem w_13_0 (k : AV tau → Mem tau → Option Unit) (x0 : (List S60)) (x1 : (List S60)) (x2 : Int) : codeA E_13 C_13 D_13 (codeP B_13 [1, 1, 0, 1, 0, 0]) (kL E_13 C_13 D_13 (codeP B_13 [1, 1, 0, 1, 0, 0]) (K_13_0 k)) (st_13_0 x0 x1 x2) = (brA (decide (x2 < ((x0.length : Nat) : Int))) (brA (decide ((0 : Int) ≤ x2)) (brA (decide (x2 < ((x0.length : Nat) : Int))) (brA (decide ((0 : Int) ≤ x2)) (brA (decide (x2 < ((x1.length : Nat) : Int))) (callX (fun n => laws_eqIns.f ((rd_T60 x0 x2).f0) ((rd_T60 x0 x2).f1) ((rd_T60 x0 x2).f2) ((rd_T60 x0 x2).f3) ((rd_T60 x1 x2).f0) ((rd_T60 x1 x2).f1) ((rd_T60 x1 x2).f2) ((rd_T60 x1 x2).f3)) fun t0 => brA (!t0) (k (.bool false) ⟨[], []⟩) (LP_13_0 k x0 x1 (wrap64 (x2 + (1 : Int))))) (none)) (none)) (none)) (none)) (k (.bool true) ⟨[], []⟩) : Option Unit) := by
 simp only [← wrapA_i64]
 kernel_rfl
theorem w_13 (l0 : List S60) (l1 : List S60) (k : AV tau → Mem tau → Option Unit) : fnA E_13 C_13 D_13 Tryd.f13 B_13 [.sl 60 l0, .sl 60 l1] ⟨[], []⟩ k = (brA (!(decide (((l0.length : Nat) : Int) = ((l1.length : Nat) : Int)))) (k (.bool false) ⟨[], []⟩) (LP_13_0 k l0 l1 (0 : Int)) : Option Unit) := by kernel_rfl
def S_13_0 (N : Nat) : Prop := ∀ (k : AV tau → Mem tau → Option Unit) (x0 : (List S60)) (x1 : (List S60)) (x2 : Int) (r : Bool), laws_eqInsS.l0 N (x0) (x1) (x2) = some r → k (.bool (r)) ⟨[], []⟩ = some () → LP_13_0 k x0 x1 x2 = some ()
theorem L_13 (N : Nat) : S_13_0 N := by
 induction N using Nat.strongRecOn with | _ N0 ih =>
 skip
 intro k x0 x1 x2 r h hk
 rcases N0 with _ | N
 · cases h
 first | rw [laws_eqInsS.l0] at h | simp only [laws_eqInsS.l0] at h | (unfold laws_eqInsS.l0 at h; dsimp only at h)
 refine loop_fold mC_13 mD_13 ?_
 refine (w_13_0 k x0 x1 x2).trans ?_
 refine br_eti h rfl (fun c13 h => ?_) (fun c13 h => ?_)
 ·cases h; exact hk
 refine br_g h rfl (fun c14 h => ?_)
 refine br_t (by first | (simp [c13]; done) | (simp; omega) | (simp only [List.length_append, List.length_cons, List.length_nil, List.length_take, List.length_drop] at c13 ⊢; simp; omega) | (simp only [List.length_append, List.length_cons, List.length_nil, List.length_take, List.length_drop] at c13; simp; omega) | (simp_all; done)) ?_
 refine br_t (by first | (simp [c14]; done) | (simp; omega) | (simp only [List.length_append, List.length_cons, List.length_nil, List.length_take, List.length_drop] at c13 ⊢; simp; omega) | (simp only [List.length_append, List.length_cons, List.length_nil, List.length_take, List.length_drop] at c13; simp; omega) | (simp_all; done)) ?_
 refine br_g h rfl (fun c15 h => ?_)
 refine call_h 0 h (fun t0 e16 h => ?_)
 refine br_etn h (congrArg not dect) (fun c17 h => ?_) (fun c17 h => ?_)
 ·cases h; exact hk
 exact (ih N (by omega)) _ _ _ _ _ h hk
theorem okc_13 (args : List (AV tau)) (m : Mem tau) (κ : AV tau → Mem tau → Option Unit) (hh : c_13 args m κ = some ()) : ∃ av m1, κ av m1 = some () ∧ ToldA Tryd.prog TT (pnT 13) 13 args m av m1 := by
 obtain ⟨bx_, rw_⟩ := m
 unfold c_13 at hh
 simp only at hh
 split at hh
 case h_2 => cases hh
 rename_i b0 b1
 obtain ⟨l0, hx0, hh0⟩ := bO_some hh
 obtain ⟨l1, hx1, hh1⟩ := bO_some hh0
 have ex0 := asSl_some hx0
 have ex1 := asSl_some hx1
 subst ex0 ex1
 obtain ⟨N, t, h, hκ⟩ := callX_some hh1
 refine ⟨_, _, hκ, told_of_run pq okC_13 (fun _ _ _ => drawA_ok pq okC_13 hmix) (E := E_13) (fn := Tryd.f13) (body := B_13) (by kernel_rfl) (by kernel_rfl) (by kernel_rfl) (by rfl) (by exact Nat.le_of_ble_eq_true rfl) (fun k hk => ?_)⟩
 refine (w_13 l0 l1 k).trans ?_
 replace h : laws_eqInsS.f N l0 l1 = some t := h
 unfold laws_eqInsS.f at h
 refine br_etn h rfl (fun c18 h => ?_) (fun c18 h => ?_)
 ·cases h; exact hk
 exact (L_13 N) _ _ _ _ _ h hk
noncomputable def C_14 : Ctr tau Unit := ctrS 13 c_13 C_13
noncomputable def D_14 : Drw tau := drawA E_14 C_14
theorem okC_14 : CtrOk Tryd.prog TT pnT C_14 := ctrS_ok okC_13 okc_13
theorem mC_14 : CtrMono C_14 := ctrS_mono mC_13 mc_13
theorem mD_14 : DrMono D_14 := drawA_mono mC_14
noncomputable def B_14 : Code := Tryd.f14.body.getD .skip
theorem mc_14 (args : List (AV tau)) (m : Mem tau) (k k' : AV tau → Mem tau → Option Unit) (hk : ∀ av m, k av m = some () → k' av m = some ()) (h : c_14 args m k = some ()) : c_14 args m k' = some () := by
 unfold c_14 at h ⊢
 split at h
 · repeat' first | exact callX_mono (fun _ h => hk _ _ h) h | refine bO_mono (fun _ h => ?_) h
 · cases h
noncomputable def K_14_0 (k : AV tau → Mem tau → Option Unit) : Kon tau := (kBlock 0 (kS E_14 C_14 D_14 (codeP B_14 [1, 1]) (kEnd E_14 Tryd.f14 k)))
def st_14_0 (x0 : Int) (x1 : Int) (x2 : (List S60)) : St tau := ⟨tmL 41 0 [(0, .own 0 0), (1, .int .i64 x0), (5, .int .i64 x1)], ⟨[], [some ⟨60, x2, 0⟩]⟩⟩
noncomputable def LP_14_0 (k : AV tau → Mem tau → Option Unit) (x0 : Int) (x1 : Int) (x2 : (List S60)) : Option Unit := loopA E_14 (codeA E_14 C_14 D_14 (codeP B_14 [1, 0, 1, 0, 0])) (codeP B_14 [1, 0, 1, 0, 0]) (K_14_0 k) (st_14_0 x0 x1 x2)
theorem w_14_0 (k : AV tau → Mem tau → Option Unit) (x0 : Int) (x1 : Int) (x2 : (List S60)) : codeA E_14 C_14 D_14 (codeP B_14 [1, 0, 1, 0, 0]) (kL E_14 C_14 D_14 (codeP B_14 [1, 0, 1, 0, 0]) (K_14_0 k)) (st_14_0 x0 x1 x2) = (brA (decide (x1 < ((x2.length : Nat) : Int))) (brA (decide ((0 : Int) ≤ x1)) (brA (decide (x1 < ((x2.length : Nat) : Int))) (brA (decide ((0 : Int) ≤ x1)) (brA (decide (x1 < (((List.set x2 (Int.toNat x1) (⟨x0, (rd_T60 x2 x1).f1, (rd_T60 x2 x1).f2, (rd_T60 x2 x1).f3⟩ : S60)).length : Nat) : Int))) (brA (decide ((0 : Int) ≤ x1)) (brA (decide (x1 < (((List.set (List.set x2 (Int.toNat x1) (⟨x0, (rd_T60 x2 x1).f1, (rd_T60 x2 x1).f2, (rd_T60 x2 x1).f3⟩ : S60)) (Int.toNat x1) (⟨(rd_T60 (List.set x2 (Int.toNat x1) (⟨x0, (rd_T60 x2 x1).f1, (rd_T60 x2 x1).f2, (rd_T60 x2 x1).f3⟩ : S60)) x1).f0, (wrap64 (x0 + (1 : Int))), (rd_T60 (List.set x2 (Int.toNat x1) (⟨x0, (rd_T60 x2 x1).f1, (rd_T60 x2 x1).f2, (rd_T60 x2 x1).f3⟩ : S60)) x1).f2, (rd_T60 (List.set x2 (Int.toNat x1) (⟨x0, (rd_T60 x2 x1).f1, (rd_T60 x2 x1).f2, (rd_T60 x2 x1).f3⟩ : S60)) x1).f3⟩ : S60)).length : Nat) : Int))) (brA (decide ((0 : Int) ≤ x1)) (brA (decide (x1 < (((List.set (List.set (List.set x2 (Int.toNat x1) (⟨x0, (rd_T60 x2 x1).f1, (rd_T60 x2 x1).f2, (rd_T60 x2 x1).f3⟩ : S60)) (Int.toNat x1) (⟨(rd_T60 (List.set x2 (Int.toNat x1) (⟨x0, (rd_T60 x2 x1).f1, (rd_T60 x2 x1).f2, (rd_T60 x2 x1).f3⟩ : S60)) x1).f0, (wrap64 (x0 + (1 : Int))), (rd_T60 (List.set x2 (Int.toNat x1) (⟨x0, (rd_T60 x2 x1).f1, (rd_T60 x2 x1).f2, (rd_T60 x2 x1).f3⟩ : S60)) x1).f2, (rd_T60 (List.set x2 (Int.toNat x1) (⟨x0, (rd_T60 x2 x1).f1, (rd_T60 x2 x1).f2, (rd_T60 x2 x1).f3⟩ : S60)) x1).f3⟩ : S60)) (Int.toNat x1) (⟨(rd_T60 (List.set (List.set x2 (Int.toNat x1) (⟨x0, (rd_T60 x2 x1).f1, (rd_T60 x2 x1).f2, (rd_T60 x2 x1).f3⟩ : S60)) (Int.toNat x1) (⟨(rd_T60 (List.set x2 (Int.toNat x1) (⟨x0, (rd_T60 x2 x1).f1, (rd_T60 x2 x1).f2, (rd_T60 x2 x1).f3⟩ : S60)) x1).f0, (wrap64 (x0 + (1 : Int))), (rd_T60 (List.set x2 (Int.toNat x1) (⟨x0, (rd_T60 x2 x1).f1, (rd_T60 x2 x1).f2, (rd_T60 x2 x1).f3⟩ : S60)) x1).f2, (rd_T60 (List.set x2 (Int.toNat x1) (⟨x0, (rd_T60 x2 x1).f1, (rd_T60 x2 x1).f2, (rd_T60 x2 x1).f3⟩ : S60)) x1).f3⟩ : S60)) x1).f0, (rd_T60 (List.set (List.set x2 (Int.toNat x1) (⟨x0, (rd_T60 x2 x1).f1, (rd_T60 x2 x1).f2, (rd_T60 x2 x1).f3⟩ : S60)) (Int.toNat x1) (⟨(rd_T60 (List.set x2 (Int.toNat x1) (⟨x0, (rd_T60 x2 x1).f1, (rd_T60 x2 x1).f2, (rd_T60 x2 x1).f3⟩ : S60)) x1).f0, (wrap64 (x0 + (1 : Int))), (rd_T60 (List.set x2 (Int.toNat x1) (⟨x0, (rd_T60 x2 x1).f1, (rd_T60 x2 x1).f2, (rd_T60 x2 x1).f3⟩ : S60)) x1).f2, (rd_T60 (List.set x2 (Int.toNat x1) (⟨x0, (rd_T60 x2 x1).f1, (rd_T60 x2 x1).f2, (rd_T60 x2 x1).f3⟩ : S60)) x1).f3⟩ : S60)) x1).f1, (wrap64 ((wrap64 (x0 + (1 : Int))) + (1 : Int))), (rd_T60 (List.set (List.set x2 (Int.toNat x1) (⟨x0, (rd_T60 x2 x1).f1, (rd_T60 x2 x1).f2, (rd_T60 x2 x1).f3⟩ : S60)) (Int.toNat x1) (⟨(rd_T60 (List.set x2 (Int.toNat x1) (⟨x0, (rd_T60 x2 x1).f1, (rd_T60 x2 x1).f2, (rd_T60 x2 x1).f3⟩ : S60)) x1).f0, (wrap64 (x0 + (1 : Int))), (rd_T60 (List.set x2 (Int.toNat x1) (⟨x0, (rd_T60 x2 x1).f1, (rd_T60 x2 x1).f2, (rd_T60 x2 x1).f3⟩ : S60)) x1).f2, (rd_T60 (List.set x2 (Int.toNat x1) (⟨x0, (rd_T60 x2 x1).f1, (rd_T60 x2 x1).f2, (rd_T60 x2 x1).f3⟩ : S60)) x1).f3⟩ : S60)) x1).f3⟩ : S60)).length : Nat) : Int))) (LP_14_0 k (wrap64 ((wrap64 ((wrap64 ((wrap64 (x0 + (1 : Int))) + (1 : Int))) + (1 : Int))) + (1 : Int))) (wrap64 (x1 + (1 : Int))) (List.set (List.set (List.set (List.set x2 (Int.toNat x1) (⟨x0, (rd_T60 x2 x1).f1, (rd_T60 x2 x1).f2, (rd_T60 x2 x1).f3⟩ : S60)) (Int.toNat x1) (⟨(rd_T60 (List.set x2 (Int.toNat x1) (⟨x0, (rd_T60 x2 x1).f1, (rd_T60 x2 x1).f2, (rd_T60 x2 x1).f3⟩ : S60)) x1).f0, (wrap64 (x0 + (1 : Int))), (rd_T60 (List.set x2 (Int.toNat x1) (⟨x0, (rd_T60 x2 x1).f1, (rd_T60 x2 x1).f2, (rd_T60 x2 x1).f3⟩ : S60)) x1).f2, (rd_T60 (List.set x2 (Int.toNat x1) (⟨x0, (rd_T60 x2 x1).f1, (rd_T60 x2 x1).f2, (rd_T60 x2 x1).f3⟩ : S60)) x1).f3⟩ : S60)) (Int.toNat x1) (⟨(rd_T60 (List.set (List.set x2 (Int.toNat x1) (⟨x0, (rd_T60 x2 x1).f1, (rd_T60 x2 x1).f2, (rd_T60 x2 x1).f3⟩ : S60)) (Int.toNat x1) (⟨(rd_T60 (List.set x2 (Int.toNat x1) (⟨x0, (rd_T60 x2 x1).f1, (rd_T60 x2 x1).f2, (rd_T60 x2 x1).f3⟩ : S60)) x1).f0, (wrap64 (x0 + (1 : Int))), (rd_T60 (List.set x2 (Int.toNat x1) (⟨x0, (rd_T60 x2 x1).f1, (rd_T60 x2 x1).f2, (rd_T60 x2 x1).f3⟩ : S60)) x1).f2, (rd_T60 (List.set x2 (Int.toNat x1) (⟨x0, (rd_T60 x2 x1).f1, (rd_T60 x2 x1).f2, (rd_T60 x2 x1).f3⟩ : S60)) x1).f3⟩ : S60)) x1).f0, (rd_T60 (List.set (List.set x2 (Int.toNat x1) (⟨x0, (rd_T60 x2 x1).f1, (rd_T60 x2 x1).f2, (rd_T60 x2 x1).f3⟩ : S60)) (Int.toNat x1) (⟨(rd_T60 (List.set x2 (Int.toNat x1) (⟨x0, (rd_T60 x2 x1).f1, (rd_T60 x2 x1).f2, (rd_T60 x2 x1).f3⟩ : S60)) x1).f0, (wrap64 (x0 + (1 : Int))), (rd_T60 (List.set x2 (Int.toNat x1) (⟨x0, (rd_T60 x2 x1).f1, (rd_T60 x2 x1).f2, (rd_T60 x2 x1).f3⟩ : S60)) x1).f2, (rd_T60 (List.set x2 (Int.toNat x1) (⟨x0, (rd_T60 x2 x1).f1, (rd_T60 x2 x1).f2, (rd_T60 x2 x1).f3⟩ : S60)) x1).f3⟩ : S60)) x1).f1, (wrap64 ((wrap64 (x0 + (1 : Int))) + (1 : Int))), (rd_T60 (List.set (List.set x2 (Int.toNat x1) (⟨x0, (rd_T60 x2 x1).f1, (rd_T60 x2 x1).f2, (rd_T60 x2 x1).f3⟩ : S60)) (Int.toNat x1) (⟨(rd_T60 (List.set x2 (Int.toNat x1) (⟨x0, (rd_T60 x2 x1).f1, (rd_T60 x2 x1).f2, (rd_T60 x2 x1).f3⟩ : S60)) x1).f0, (wrap64 (x0 + (1 : Int))), (rd_T60 (List.set x2 (Int.toNat x1) (⟨x0, (rd_T60 x2 x1).f1, (rd_T60 x2 x1).f2, (rd_T60 x2 x1).f3⟩ : S60)) x1).f2, (rd_T60 (List.set x2 (Int.toNat x1) (⟨x0, (rd_T60 x2 x1).f1, (rd_T60 x2 x1).f2, (rd_T60 x2 x1).f3⟩ : S60)) x1).f3⟩ : S60)) x1).f3⟩ : S60)) (Int.toNat x1) (⟨(rd_T60 (List.set (List.set (List.set x2 (Int.toNat x1) (⟨x0, (rd_T60 x2 x1).f1, (rd_T60 x2 x1).f2, (rd_T60 x2 x1).f3⟩ : S60)) (Int.toNat x1) (⟨(rd_T60 (List.set x2 (Int.toNat x1) (⟨x0, (rd_T60 x2 x1).f1, (rd_T60 x2 x1).f2, (rd_T60 x2 x1).f3⟩ : S60)) x1).f0, (wrap64 (x0 + (1 : Int))), (rd_T60 (List.set x2 (Int.toNat x1) (⟨x0, (rd_T60 x2 x1).f1, (rd_T60 x2 x1).f2, (rd_T60 x2 x1).f3⟩ : S60)) x1).f2, (rd_T60 (List.set x2 (Int.toNat x1) (⟨x0, (rd_T60 x2 x1).f1, (rd_T60 x2 x1).f2, (rd_T60 x2 x1).f3⟩ : S60)) x1).f3⟩ : S60)) (Int.toNat x1) (⟨(rd_T60 (List.set (List.set x2 (Int.toNat x1) (⟨x0, (rd_T60 x2 x1).f1, (rd_T60 x2 x1).f2, (rd_T60 x2 x1).f3⟩ : S60)) (Int.toNat x1) (⟨(rd_T60 (List.set x2 (Int.toNat x1) (⟨x0, (rd_T60 x2 x1).f1, (rd_T60 x2 x1).f2, (rd_T60 x2 x1).f3⟩ : S60)) x1).f0, (wrap64 (x0 + (1 : Int))), (rd_T60 (List.set x2 (Int.toNat x1) (⟨x0, (rd_T60 x2 x1).f1, (rd_T60 x2 x1).f2, (rd_T60 x2 x1).f3⟩ : S60)) x1).f2, (rd_T60 (List.set x2 (Int.toNat x1) (⟨x0, (rd_T60 x2 x1).f1, (rd_T60 x2 x1).f2, (rd_T60 x2 x1).f3⟩ : S60)) x1).f3⟩ : S60)) x1).f0, (rd_T60 (List.set (List.set x2 (Int.toNat x1) (⟨x0, (rd_T60 x2 x1).f1, (rd_T60 x2 x1).f2, (rd_T60 x2 x1).f3⟩ : S60)) (Int.toNat x1) (⟨(rd_T60 (List.set x2 (Int.toNat x1) (⟨x0, (rd_T60 x2 x1).f1, (rd_T60 x2 x1).f2, (rd_T60 x2 x1).f3⟩ : S60)) x1).f0, (wrap64 (x0 + (1 : Int))), (rd_T60 (List.set x2 (Int.toNat x1) (⟨x0, (rd_T60 x2 x1).f1, (rd_T60 x2 x1).f2, (rd_T60 x2 x1).f3⟩ : S60)) x1).f2, (rd_T60 (List.set x2 (Int.toNat x1) (⟨x0, (rd_T60 x2 x1).f1, (rd_T60 x2 x1).f2, (rd_T60 x2 x1).f3⟩ : S60)) x1).f3⟩ : S60)) x1).f1, (wrap64 ((wrap64 (x0 + (1 : Int))) + (1 : Int))), (rd_T60 (List.set (List.set x2 (Int.toNat x1) (⟨x0, (rd_T60 x2 x1).f1, (rd_T60 x2 x1).f2, (rd_T60 x2 x1).f3⟩ : S60)) (Int.toNat x1) (⟨(rd_T60 (List.set x2 (Int.toNat x1) (⟨x0, (rd_T60 x2 x1).f1, (rd_T60 x2 x1).f2, (rd_T60 x2 x1).f3⟩ : S60)) x1).f0, (wrap64 (x0 + (1 : Int))), (rd_T60 (List.set x2 (Int.toNat x1) (⟨x0, (rd_T60 x2 x1).f1, (rd_T60 x2 x1).f2, (rd_T60 x2 x1).f3⟩ : S60)) x1).f2, (rd_T60 (List.set x2 (Int.toNat x1) (⟨x0, (rd_T60 x2 x1).f1, (rd_T60 x2 x1).f2, (rd_T60 x2 x1).f3⟩ : S60)) x1).f3⟩ : S60)) x1).f3⟩ : S60)) x1).f0, (rd_T60 (List.set (List.set (List.set x2 (Int.toNat x1) (⟨x0, (rd_T60 x2 x1).f1, (rd_T60 x2 x1).f2, (rd_T60 x2 x1).f3⟩ : S60)) (Int.toNat x1) (⟨(rd_T60 (List.set x2 (Int.toNat x1) (⟨x0, (rd_T60 x2 x1).f1, (rd_T60 x2 x1).f2, (rd_T60 x2 x1).f3⟩ : S60)) x1).f0, (wrap64 (x0 + (1 : Int))), (rd_T60 (List.set x2 (Int.toNat x1) (⟨x0, (rd_T60 x2 x1).f1, (rd_T60 x2 x1).f2, (rd_T60 x2 x1).f3⟩ : S60)) x1).f2, (rd_T60 (List.set x2 (Int.toNat x1) (⟨x0, (rd_T60 x2 x1).f1, (rd_T60 x2 x1).f2, (rd_T60 x2 x1).f3⟩ : S60)) x1).f3⟩ : S60)) (Int.toNat x1) (⟨(rd_T60 (List.set (List.set x2 (Int.toNat x1) (⟨x0, (rd_T60 x2 x1).f1, (rd_T60 x2 x1).f2, (rd_T60 x2 x1).f3⟩ : S60)) (Int.toNat x1) (⟨(rd_T60 (List.set x2 (Int.toNat x1) (⟨x0, (rd_T60 x2 x1).f1, (rd_T60 x2 x1).f2, (rd_T60 x2 x1).f3⟩ : S60)) x1).f0, (wrap64 (x0 + (1 : Int))), (rd_T60 (List.set x2 (Int.toNat x1) (⟨x0, (rd_T60 x2 x1).f1, (rd_T60 x2 x1).f2, (rd_T60 x2 x1).f3⟩ : S60)) x1).f2, (rd_T60 (List.set x2 (Int.toNat x1) (⟨x0, (rd_T60 x2 x1).f1, (rd_T60 x2 x1).f2, (rd_T60 x2 x1).f3⟩ : S60)) x1).f3⟩ : S60)) x1).f0, (rd_T60 (List.set (List.set x2 (Int.toNat x1) (⟨x0, (rd_T60 x2 x1).f1, (rd_T60 x2 x1).f2, (rd_T60 x2 x1).f3⟩ : S60)) (Int.toNat x1) (⟨(rd_T60 (List.set x2 (Int.toNat x1) (⟨x0, (rd_T60 x2 x1).f1, (rd_T60 x2 x1).f2, (rd_T60 x2 x1).f3⟩ : S60)) x1).f0, (wrap64 (x0 + (1 : Int))), (rd_T60 (List.set x2 (Int.toNat x1) (⟨x0, (rd_T60 x2 x1).f1, (rd_T60 x2 x1).f2, (rd_T60 x2 x1).f3⟩ : S60)) x1).f2, (rd_T60 (List.set x2 (Int.toNat x1) (⟨x0, (rd_T60 x2 x1).f1, (rd_T60 x2 x1).f2, (rd_T60 x2 x1).f3⟩ : S60)) x1).f3⟩ : S60)) x1).f1, (wrap64 ((wrap64 (x0 + (1 : Int))) + (1 : Int))), (rd_T60 (List.set (List.set x2 (Int.toNat x1) (⟨x0, (rd_T60 x2 x1).f1, (rd_T60 x2 x1).f2, (rd_T60 x2 x1).f3⟩ : S60)) (Int.toNat x1) (⟨(rd_T60 (List.set x2 (Int.toNat x1) (⟨x0, (rd_T60 x2 x1).f1, (rd_T60 x2 x1).f2, (rd_T60 x2 x1).f3⟩ : S60)) x1).f0, (wrap64 (x0 + (1 : Int))), (rd_T60 (List.set x2 (Int.toNat x1) (⟨x0, (rd_T60 x2 x1).f1, (rd_T60 x2 x1).f2, (rd_T60 x2 x1).f3⟩ : S60)) x1).f2, (rd_T60 (List.set x2 (Int.toNat x1) (⟨x0, (rd_T60 x2 x1).f1, (rd_T60 x2 x1).f2, (rd_T60 x2 x1).f3⟩ : S60)) x1).f3⟩ : S60)) x1).f3⟩ : S60)) x1).f1, (rd_T60 (List.set (List.set (List.set x2 (Int.toNat x1) (⟨x0, (rd_T60 x2 x1).f1, (rd_T60 x2 x1).f2, (rd_T60 x2 x1).f3⟩ : S60)) (Int.toNat x1) (⟨(rd_T60 (List.set x2 (Int.toNat x1) (⟨x0, (rd_T60 x2 x1).f1, (rd_T60 x2 x1).f2, (rd_T60 x2 x1).f3⟩ : S60)) x1).f0, (wrap64 (x0 + (1 : Int))), (rd_T60 (List.set x2 (Int.toNat x1) (⟨x0, (rd_T60 x2 x1).f1, (rd_T60 x2 x1).f2, (rd_T60 x2 x1).f3⟩ : S60)) x1).f2, (rd_T60 (List.set x2 (Int.toNat x1) (⟨x0, (rd_T60 x2 x1).f1, (rd_T60 x2 x1).f2, (rd_T60 x2 x1).f3⟩ : S60)) x1).f3⟩ : S60)) (Int.toNat x1) (⟨(rd_T60 (List.set (List.set x2 (Int.toNat x1) (⟨x0, (rd_T60 x2 x1).f1, (rd_T60 x2 x1).f2, (rd_T60 x2 x1).f3⟩ : S60)) (Int.toNat x1) (⟨(rd_T60 (List.set x2 (Int.toNat x1) (⟨x0, (rd_T60 x2 x1).f1, (rd_T60 x2 x1).f2, (rd_T60 x2 x1).f3⟩ : S60)) x1).f0, (wrap64 (x0 + (1 : Int))), (rd_T60 (List.set x2 (Int.toNat x1) (⟨x0, (rd_T60 x2 x1).f1, (rd_T60 x2 x1).f2, (rd_T60 x2 x1).f3⟩ : S60)) x1).f2, (rd_T60 (List.set x2 (Int.toNat x1) (⟨x0, (rd_T60 x2 x1).f1, (rd_T60 x2 x1).f2, (rd_T60 x2 x1).f3⟩ : S60)) x1).f3⟩ : S60)) x1).f0, (rd_T60 (List.set (List.set x2 (Int.toNat x1) (⟨x0, (rd_T60 x2 x1).f1, (rd_T60 x2 x1).f2, (rd_T60 x2 x1).f3⟩ : S60)) (Int.toNat x1) (⟨(rd_T60 (List.set x2 (Int.toNat x1) (⟨x0, (rd_T60 x2 x1).f1, (rd_T60 x2 x1).f2, (rd_T60 x2 x1).f3⟩ : S60)) x1).f0, (wrap64 (x0 + (1 : Int))), (rd_T60 (List.set x2 (Int.toNat x1) (⟨x0, (rd_T60 x2 x1).f1, (rd_T60 x2 x1).f2, (rd_T60 x2 x1).f3⟩ : S60)) x1).f2, (rd_T60 (List.set x2 (Int.toNat x1) (⟨x0, (rd_T60 x2 x1).f1, (rd_T60 x2 x1).f2, (rd_T60 x2 x1).f3⟩ : S60)) x1).f3⟩ : S60)) x1).f1, (wrap64 ((wrap64 (x0 + (1 : Int))) + (1 : Int))), (rd_T60 (List.set (List.set x2 (Int.toNat x1) (⟨x0, (rd_T60 x2 x1).f1, (rd_T60 x2 x1).f2, (rd_T60 x2 x1).f3⟩ : S60)) (Int.toNat x1) (⟨(rd_T60 (List.set x2 (Int.toNat x1) (⟨x0, (rd_T60 x2 x1).f1, (rd_T60 x2 x1).f2, (rd_T60 x2 x1).f3⟩ : S60)) x1).f0, (wrap64 (x0 + (1 : Int))), (rd_T60 (List.set x2 (Int.toNat x1) (⟨x0, (rd_T60 x2 x1).f1, (rd_T60 x2 x1).f2, (rd_T60 x2 x1).f3⟩ : S60)) x1).f2, (rd_T60 (List.set x2 (Int.toNat x1) (⟨x0, (rd_T60 x2 x1).f1, (rd_T60 x2 x1).f2, (rd_T60 x2 x1).f3⟩ : S60)) x1).f3⟩ : S60)) x1).f3⟩ : S60)) x1).f2, (wrap64 ((wrap64 ((wrap64 (x0 + (1 : Int))) + (1 : Int))) + (1 : Int)))⟩ : S60))) (none)) (none)) (none)) (none)) (none)) (none)) (none)) (none)) (k (.int .i64 x0) ⟨[], [some ⟨60, x2, 0⟩]⟩) : Option Unit) := by
 simp only [← wrapA_i64]
 kernel_rfl
theorem w_14 (l0 : List S60) (a1 : Int) (k : AV tau → Mem tau → Option Unit) : fnA E_14 C_14 D_14 Tryd.f14 B_14 [.own 0 0, .int .i64 a1] ⟨[], [some ⟨60, l0, 0⟩]⟩ k = (LP_14_0 k a1 (0 : Int) l0 : Option Unit) := by kernel_rfl
def S_14_0 (N : Nat) : Prop := ∀ (k : AV tau → Mem tau → Option Unit) (x0 : Int) (x1 : Int) (x2 : (List S60)) (r : Int × (List (S60))), laws_markInsS.l0 N (x2) (x0) (x1) = some r → k (.int .i64 (r.1)) ⟨[], [some ⟨60, r.2, 0⟩]⟩ = some () → LP_14_0 k x0 x1 x2 = some ()
theorem L_14 (N : Nat) : S_14_0 N := by
 induction N using Nat.strongRecOn with | _ N0 ih =>
 skip
 intro k x0 x1 x2 r h hk
 rcases N0 with _ | N
 · cases h
 first | rw [laws_markInsS.l0] at h | simp only [laws_markInsS.l0] at h | (unfold laws_markInsS.l0 at h; dsimp only at h)
 refine loop_fold mC_14 mD_14 ?_
 refine (w_14_0 k x0 x1 x2).trans ?_
 refine br_eti h rfl (fun c5 h => ?_) (fun c5 h => ?_)
 ·cases h; exact hk
 refine br_g h rfl (fun c6 h => ?_)
 replace h := let_h h
 replace h := let_h h
 replace h := let_h h
 refine br_t (by first | (simp [c5]; done) | (simp; omega) | (simp only [List.length_append, List.length_cons, List.length_nil, List.length_take, List.length_drop] at c5 ⊢; simp; omega) | (simp only [List.length_append, List.length_cons, List.length_nil, List.length_take, List.length_drop] at c5; simp; omega) | (simp_all; done)) ?_
 refine br_t (by first | (simp [c6]; done) | (simp; omega) | (simp only [List.length_append, List.length_cons, List.length_nil, List.length_take, List.length_drop] at c5 ⊢; simp; omega) | (simp only [List.length_append, List.length_cons, List.length_nil, List.length_take, List.length_drop] at c5; simp; omega) | (simp_all; done)) ?_
 refine br_t (by first | (simp; omega) | (simp only [List.length_append, List.length_cons, List.length_nil, List.length_take, List.length_drop] at c5 ⊢; simp; omega) | (simp only [List.length_append, List.length_cons, List.length_nil, List.length_take, List.length_drop] at c5; simp; omega)) ?_
 refine br_t (by first | (simp [c6]; done) | (simp; omega) | (simp only [List.length_append, List.length_cons, List.length_nil, List.length_take, List.length_drop] at c5 ⊢; simp; omega) | (simp only [List.length_append, List.length_cons, List.length_nil, List.length_take, List.length_drop] at c5; simp; omega) | (simp_all; done)) ?_
 refine br_t (by first | (simp; omega) | (simp only [List.length_append, List.length_cons, List.length_nil, List.length_take, List.length_drop] at c5 ⊢; simp; omega) | (simp only [List.length_append, List.length_cons, List.length_nil, List.length_take, List.length_drop] at c5; simp; omega)) ?_
 refine br_t (by first | (simp [c6]; done) | (simp; omega) | (simp only [List.length_append, List.length_cons, List.length_nil, List.length_take, List.length_drop] at c5 ⊢; simp; omega) | (simp only [List.length_append, List.length_cons, List.length_nil, List.length_take, List.length_drop] at c5; simp; omega) | (simp_all; done)) ?_
 refine br_t (by first | (simp; omega) | (simp only [List.length_append, List.length_cons, List.length_nil, List.length_take, List.length_drop] at c5 ⊢; simp; omega) | (simp only [List.length_append, List.length_cons, List.length_nil, List.length_take, List.length_drop] at c5; simp; omega)) ?_
 exact (ih N (by omega)) _ _ _ _ _ h hk
theorem okc_14 (args : List (AV tau)) (m : Mem tau) (κ : AV tau → Mem tau → Option Unit) (hh : c_14 args m κ = some ()) : ∃ av m1, κ av m1 = some () ∧ ToldA Tryd.prog TT (pnT 14) 14 args m av m1 := by
 obtain ⟨bx_, rw_⟩ := m
 unfold c_14 at hh
 simp only at hh
 split at hh
 case h_2 => cases hh
 rename_i b0 b1 r0
 obtain ⟨u7, hx0, hh0⟩ := bO_some hh
 obtain ⟨l0, hx1, hh1⟩ := bO_some hh0
 obtain ⟨a1, hx2, hh2⟩ := bO_some hh1
 have ex0 := asOwn_some hx0
 have ex1 := asRow_some hx1
 have ex2 := asI_some hx2
 subst ex0 ex1 ex2
 obtain ⟨N, t, h, hκ⟩ := callX_some hh2
 refine ⟨_, _, hκ, told_of_run pq okC_14 (fun _ _ _ => drawA_ok pq okC_14 hmix) (E := E_14) (fn := Tryd.f14) (body := B_14) (by kernel_rfl) (by kernel_rfl) (by kernel_rfl) (by rfl) (by exact Nat.le_of_ble_eq_true rfl) (fun k hk => ?_)⟩
 refine (w_14 l0 a1 k).trans ?_
 replace h : laws_markInsS.f N l0 a1 = some t := h
 unfold laws_markInsS.f at h
 exact (L_14 N) _ _ _ _ _ h hk
noncomputable def C_15 : Ctr tau Unit := ctrS 14 c_14 C_14
noncomputable def D_15 : Drw tau := drawA E_15 C_15
theorem okC_15 : CtrOk Tryd.prog TT pnT C_15 := ctrS_ok okC_14 okc_14
theorem mC_15 : CtrMono C_15 := ctrS_mono mC_14 mc_14
theorem mD_15 : DrMono D_15 := drawA_mono mC_15
noncomputable def B_15 : Code := Tryd.f15.body.getD .skip
theorem mc_15 (args : List (AV tau)) (m : Mem tau) (k k' : AV tau → Mem tau → Option Unit) (hk : ∀ av m, k av m = some () → k' av m = some ()) (h : c_15 args m k = some ()) : c_15 args m k' = some () := by
 unfold c_15 at h ⊢
 split at h
 · repeat' first | exact callX_mono (fun _ h => hk _ _ h) h | refine bO_mono (fun _ h => ?_) h
 · cases h
noncomputable def K_15_0 (k : AV tau → Mem tau → Option Unit) : Kon tau := (kBlock 0 (kS E_15 C_15 D_15 (codeP B_15 [1, 1]) (kEnd E_15 Tryd.f15 k)))
def st_15_0 (x0 : (List S60)) (x1 : Int) (x2 : Int) : St tau := ⟨tmL 49 0 [(0, .sl 60 x0), (1, .int .i64 x1), (5, .int .i64 x2)], ⟨[], []⟩⟩
noncomputable def LP_15_0 (k : AV tau → Mem tau → Option Unit) (x0 : (List S60)) (x1 : Int) (x2 : Int) : Option Unit := loopA E_15 (codeA E_15 C_15 D_15 (codeP B_15 [1, 0, 1, 0, 0])) (codeP B_15 [1, 0, 1, 0, 0]) (K_15_0 k) (st_15_0 x0 x1 x2)
theorem w_15_0 (k : AV tau → Mem tau → Option Unit) (x0 : (List S60)) (x1 : Int) (x2 : Int) : codeA E_15 C_15 D_15 (codeP B_15 [1, 0, 1, 0, 0]) (kL E_15 C_15 D_15 (codeP B_15 [1, 0, 1, 0, 0]) (K_15_0 k)) (st_15_0 x0 x1 x2) = (brA (decide (x2 < ((x0.length : Nat) : Int))) (brA (decide ((0 : Int) ≤ x2)) (brA (decide (x2 < ((x0.length : Nat) : Int))) (brA (!(decide ((rd_T60 x0 x2).f0 = x1))) (k (.int .i64 (-(1 : Int))) ⟨[], []⟩) (brA (decide ((0 : Int) ≤ x2)) (brA (decide (x2 < ((x0.length : Nat) : Int))) (brA (!(decide ((rd_T60 x0 x2).f1 = (wrap64 (x1 + (1 : Int)))))) (k (.int .i64 (-(1 : Int))) ⟨[], []⟩) (brA (decide ((0 : Int) ≤ x2)) (brA (decide (x2 < ((x0.length : Nat) : Int))) (brA (!(decide ((rd_T60 x0 x2).f2 = (wrap64 ((wrap64 (x1 + (1 : Int))) + (1 : Int)))))) (k (.int .i64 (-(1 : Int))) ⟨[], []⟩) (brA (decide ((0 : Int) ≤ x2)) (brA (decide (x2 < ((x0.length : Nat) : Int))) (brA (!(decide ((rd_T60 x0 x2).f3 = (wrap64 ((wrap64 ((wrap64 (x1 + (1 : Int))) + (1 : Int))) + (1 : Int)))))) (k (.int .i64 (-(1 : Int))) ⟨[], []⟩) (LP_15_0 k x0 (wrap64 ((wrap64 ((wrap64 ((wrap64 (x1 + (1 : Int))) + (1 : Int))) + (1 : Int))) + (1 : Int))) (wrap64 (x2 + (1 : Int))))) (none)) (none))) (none)) (none))) (none)) (none))) (none)) (none)) (k (.int .i64 x1) ⟨[], []⟩) : Option Unit) := by
 simp only [← wrapA_i64]
 kernel_rfl
theorem w_15 (l0 : List S60) (a1 : Int) (k : AV tau → Mem tau → Option Unit) : fnA E_15 C_15 D_15 Tryd.f15 B_15 [.sl 60 l0, .int .i64 a1] ⟨[], []⟩ k = (LP_15_0 k l0 a1 (0 : Int) : Option Unit) := by kernel_rfl
def S_15_0 (N : Nat) : Prop := ∀ (k : AV tau → Mem tau → Option Unit) (x0 : (List S60)) (x1 : Int) (x2 : Int) (r : Int), laws_heldInsS.l0 N (x0) (x1) (x2) = some r → k (.int .i64 (r)) ⟨[], []⟩ = some () → LP_15_0 k x0 x1 x2 = some ()
theorem L_15 (N : Nat) : S_15_0 N := by
 induction N using Nat.strongRecOn with | _ N0 ih =>
 skip
 intro k x0 x1 x2 r h hk
 rcases N0 with _ | N
 · cases h
 first | rw [laws_heldInsS.l0] at h | simp only [laws_heldInsS.l0] at h | (unfold laws_heldInsS.l0 at h; dsimp only at h)
 refine loop_fold mC_15 mD_15 ?_
 refine (w_15_0 k x0 x1 x2).trans ?_
 refine br_eti h rfl (fun c13 h => ?_) (fun c13 h => ?_)
 ·cases h; exact hk
 refine br_g h rfl (fun c14 h => ?_)
 refine br_t (by first | (simp [c13]; done) | (simp; omega) | (simp only [List.length_append, List.length_cons, List.length_nil, List.length_take, List.length_drop] at c13 ⊢; simp; omega) | (simp only [List.length_append, List.length_cons, List.length_nil, List.length_take, List.length_drop] at c13; simp; omega) | (simp_all; done)) ?_
 refine br_etn h rfl (fun c15 h => ?_) (fun c15 h => ?_)
 ·cases h; exact hk
 refine br_t (by first | (simp [c14]; done) | (simp; omega) | (simp only [List.length_append, List.length_cons, List.length_nil, List.length_take, List.length_drop] at c13 ⊢; simp; omega) | (simp only [List.length_append, List.length_cons, List.length_nil, List.length_take, List.length_drop] at c13; simp; omega) | (simp_all; done)) ?_
 refine br_t (by first | (simp [c13]; done) | (simp; omega) | (simp only [List.length_append, List.length_cons, List.length_nil, List.length_take, List.length_drop] at c13 ⊢; simp; omega) | (simp only [List.length_append, List.length_cons, List.length_nil, List.length_take, List.length_drop] at c13; simp; omega) | (simp_all; done)) ?_
 refine br_etn h rfl (fun c16 h => ?_) (fun c16 h => ?_)
 ·cases h; exact hk
 refine br_t (by first | (simp [c14]; done) | (simp; omega) | (simp only [List.length_append, List.length_cons, List.length_nil, List.length_take, List.length_drop] at c13 ⊢; simp; omega) | (simp only [List.length_append, List.length_cons, List.length_nil, List.length_take, List.length_drop] at c13; simp; omega) | (simp_all; done)) ?_
 refine br_t (by first | (simp [c13]; done) | (simp; omega) | (simp only [List.length_append, List.length_cons, List.length_nil, List.length_take, List.length_drop] at c13 ⊢; simp; omega) | (simp only [List.length_append, List.length_cons, List.length_nil, List.length_take, List.length_drop] at c13; simp; omega) | (simp_all; done)) ?_
 refine br_etn h rfl (fun c17 h => ?_) (fun c17 h => ?_)
 ·cases h; exact hk
 refine br_t (by first | (simp [c14]; done) | (simp; omega) | (simp only [List.length_append, List.length_cons, List.length_nil, List.length_take, List.length_drop] at c13 ⊢; simp; omega) | (simp only [List.length_append, List.length_cons, List.length_nil, List.length_take, List.length_drop] at c13; simp; omega) | (simp_all; done)) ?_
 refine br_t (by first | (simp [c13]; done) | (simp; omega) | (simp only [List.length_append, List.length_cons, List.length_nil, List.length_take, List.length_drop] at c13 ⊢; simp; omega) | (simp only [List.length_append, List.length_cons, List.length_nil, List.length_take, List.length_drop] at c13; simp; omega) | (simp_all; done)) ?_
 refine br_etn h rfl (fun c18 h => ?_) (fun c18 h => ?_)
 ·cases h; exact hk
 exact (ih N (by omega)) _ _ _ _ _ h hk
theorem okc_15 (args : List (AV tau)) (m : Mem tau) (κ : AV tau → Mem tau → Option Unit) (hh : c_15 args m κ = some ()) : ∃ av m1, κ av m1 = some () ∧ ToldA Tryd.prog TT (pnT 15) 15 args m av m1 := by
 obtain ⟨bx_, rw_⟩ := m
 unfold c_15 at hh
 simp only at hh
 split at hh
 case h_2 => cases hh
 rename_i b0 b1
 obtain ⟨l0, hx0, hh0⟩ := bO_some hh
 obtain ⟨a1, hx1, hh1⟩ := bO_some hh0
 have ex0 := asSl_some hx0
 have ex1 := asI_some hx1
 subst ex0 ex1
 obtain ⟨N, t, h, hκ⟩ := callX_some hh1
 refine ⟨_, _, hκ, told_of_run pq okC_15 (fun _ _ _ => drawA_ok pq okC_15 hmix) (E := E_15) (fn := Tryd.f15) (body := B_15) (by kernel_rfl) (by kernel_rfl) (by kernel_rfl) (by rfl) (by exact Nat.le_of_ble_eq_true rfl) (fun k hk => ?_)⟩
 refine (w_15 l0 a1 k).trans ?_
 replace h : laws_heldInsS.f N l0 a1 = some t := h
 unfold laws_heldInsS.f at h
 exact (L_15 N) _ _ _ _ _ h hk
noncomputable def C_50 : Ctr tau Unit := ctrS 15 c_15 C_15
noncomputable def D_50 : Drw tau := drawA E_50 C_50
theorem okC_50 : CtrOk Tryd.prog TT pnT C_50 := ctrS_ok okC_15 okc_15
theorem mC_50 : CtrMono C_50 := ctrS_mono mC_15 mc_15
theorem mD_50 : DrMono D_50 := drawA_mono mC_50
noncomputable def B_50 : Code := Tryd.f50.body.getD .skip
theorem mc_50 (args : List (AV tau)) (m : Mem tau) (k k' : AV tau → Mem tau → Option Unit) (hk : ∀ av m, k av m = some () → k' av m = some ()) (h : c_50 args m k = some ()) : c_50 args m k' = some () := by
 unfold c_50 at h ⊢
 split at h
 · repeat' first | exact callX_mono (fun _ h => hk _ _ h) h | refine bO_mono (fun _ h => ?_) h
 · cases h
noncomputable def K_50_0 (k : AV tau → Mem tau → Option Unit) : Kon tau := (kBlock 0 (kS E_50 C_50 D_50 (codeP B_50 [1, 1, 1, 1]) (kEnd E_50 Tryd.f50 k)))
def st_50_0 (x0 : ByteArray) (x1 : Int) (x2 : Int) (x3 : Int) (x4 : (List ByteArray)) : St tau := ⟨tmL 36 0 [(0, .str x0), (1, .int .u8 x1), (5, .own 0 0), (6, .int .i64 x2), (7, .int .i64 x3)], ⟨[], [some ⟨9, x4, 0⟩]⟩⟩
noncomputable def LP_50_0 (k : AV tau → Mem tau → Option Unit) (x0 : ByteArray) (x1 : Int) (x2 : Int) (x3 : Int) (x4 : (List ByteArray)) : Option Unit := loopA E_50 (codeA E_50 C_50 D_50 (codeP B_50 [1, 1, 1, 0, 1, 0, 0])) (codeP B_50 [1, 1, 1, 0, 1, 0, 0]) (K_50_0 k) (st_50_0 x0 x1 x2 x3 x4)
theorem w_50_0 (k : AV tau → Mem tau → Option Unit) (x0 : ByteArray) (x1 : Int) (x2 : Int) (x3 : Int) (x4 : (List ByteArray)) : codeA E_50 C_50 D_50 (codeP B_50 [1, 1, 1, 0, 1, 0, 0]) (kL E_50 C_50 D_50 (codeP B_50 [1, 1, 1, 0, 1, 0, 0]) (K_50_0 k)) (st_50_0 x0 x1 x2 x3 x4) = (brA (decide (x3 ≤ ((x0.size : Nat) : Int))) (brA (decide (x3 = ((x0.size : Nat) : Int))) (brA (decide ((0 : Int) ≤ x3)) (brA (decide (x3 ≤ ((x0.size : Nat) : Int))) (brA (decide ((0 : Int) ≤ x2)) (brA (decide (x2 ≤ x3)) (brA (decide ((x4.length + 1) ≤ 8796093022208)) (LP_50_0 k x0 x1 (wrap64 (x3 + (1 : Int))) (wrap64 (x3 + (1 : Int))) (x4 ++ ([(ByteArray.extract x0 (Int.toNat x2) (Int.toNat x3))] : List ByteArray))) (none)) (none)) (none)) (none)) (none)) (brA (decide ((0 : Int) ≤ x3)) (brA (decide (x3 < ((x0.size : Nat) : Int))) (brA (decide ((btA x0 x3) = x1)) (brA (decide ((0 : Int) ≤ x3)) (brA (decide (x3 ≤ ((x0.size : Nat) : Int))) (brA (decide ((0 : Int) ≤ x2)) (brA (decide (x2 ≤ x3)) (brA (decide ((x4.length + 1) ≤ 8796093022208)) (LP_50_0 k x0 x1 (wrap64 (x3 + (1 : Int))) (wrap64 (x3 + (1 : Int))) (x4 ++ ([(ByteArray.extract x0 (Int.toNat x2) (Int.toNat x3))] : List ByteArray))) (none)) (none)) (none)) (none)) (none)) (LP_50_0 k x0 x1 x2 (wrap64 (x3 + (1 : Int))) x4)) (none)) (none))) (k (.own 0 0) ⟨[], [some ⟨9, x4, 0⟩]⟩) : Option Unit) := by
 simp only [← wrapA_i64]
 kernel_rfl
theorem w_50 (a0 : ByteArray) (a1 : Int) (k : AV tau → Mem tau → Option Unit) : fnA E_50 C_50 D_50 Tryd.f50 B_50 [.str a0, .int .u8 a1] ⟨[], []⟩ k = (LP_50_0 k a0 a1 (0 : Int) (0 : Int) ([] : List ByteArray) : Option Unit) := by kernel_rfl
def S_50_0 (N : Nat) : Prop := ∀ (k : AV tau → Mem tau → Option Unit) (x0 : ByteArray) (x1 : Int) (x2 : Int) (x3 : Int) (x4 : (List ByteArray)) (r : (List ByteArray)), spec_l15Cut.l0 N (x0) (x1) (x2) (x3) (x4) = some r → k (.own 0 0) ⟨[], [some ⟨9, r, 0⟩]⟩ = some () → LP_50_0 k x0 x1 x2 x3 x4 = some ()
theorem L_50 (N : Nat) : S_50_0 N := by
 induction N using Nat.strongRecOn with | _ N0 ih =>
 skip
 intro k x0 x1 x2 x3 x4 r h hk
 rcases N0 with _ | N
 · cases h
 first | rw [spec_l15Cut.l0] at h | simp only [spec_l15Cut.l0] at h | (unfold spec_l15Cut.l0 at h; dsimp only at h)
 refine loop_fold mC_50 mD_50 ?_
 refine (w_50_0 k x0 x1 x2 x3 x4).trans ?_
 refine br_eti h rfl (fun c31 h => ?_) (fun c31 h => ?_)
 ·cases h; exact hk
 refine br_ite h rfl (fun c32 h => ?_) (fun c32 h => ?_)
 ·refine br_g h rfl (fun c33 h => ?_)
  refine br_g h rfl (fun c34 h => ?_)
  refine br_g h rfl (fun c35 h => ?_)
  refine br_g h rfl (fun c36 h => ?_)
  refine br_g h rfl (fun c37 h => ?_)
  exact (ih N (by omega)) _ _ _ _ _ _ _ h hk
 refine br_g h rfl (fun c38 h => ?_)
 refine br_g h rfl (fun c39 h => ?_)
 refine br_eti h rfl (fun c40 h => ?_) (fun c40 h => ?_)
 ·exact (ih N (by omega)) _ _ _ _ _ _ _ h hk
 refine br_g h rfl (fun c41 h => ?_)
 refine br_g h rfl (fun c42 h => ?_)
 refine br_g h rfl (fun c43 h => ?_)
 refine br_g h rfl (fun c44 h => ?_)
 refine br_g h rfl (fun c45 h => ?_)
 exact (ih N (by omega)) _ _ _ _ _ _ _ h hk
theorem okc_50 (args : List (AV tau)) (m : Mem tau) (κ : AV tau → Mem tau → Option Unit) (hh : c_50 args m κ = some ()) : ∃ av m1, κ av m1 = some () ∧ ToldA Tryd.prog TT (pnT 50) 50 args m av m1 := by
 obtain ⟨bx_, rw_⟩ := m
 unfold c_50 at hh
 simp only at hh
 split at hh
 case h_2 => cases hh
 rename_i b0 b1
 obtain ⟨a0, hx0, hh0⟩ := bO_some hh
 obtain ⟨a1, hx1, hh1⟩ := bO_some hh0
 have ex0 := asS_some hx0
 have ex1 := asI_some hx1
 subst ex0 ex1
 obtain ⟨N, t, h, hκ⟩ := callX_some hh1
 refine ⟨_, _, hκ, told_of_run pq okC_50 (fun _ _ _ => drawA_ok pq okC_50 hmix) (E := E_50) (fn := Tryd.f50) (body := B_50) (by kernel_rfl) (by kernel_rfl) (by kernel_rfl) (by rfl) (by exact Nat.le_of_ble_eq_true rfl) (fun k hk => ?_)⟩
 refine (w_50 a0 a1 k).trans ?_
 replace h : spec_l15Cut.f N a0 a1 = some t := h
 unfold spec_l15Cut.f at h
 exact (L_50 N) _ _ _ _ _ _ _ h hk
noncomputable def C_82 : Ctr tau Unit := ctrS 50 c_50 C_50
noncomputable def D_82 : Drw tau := drawA E_82 C_82
theorem okC_82 : CtrOk Tryd.prog TT pnT C_82 := ctrS_ok okC_50 okc_50
theorem mC_82 : CtrMono C_82 := ctrS_mono mC_50 mc_50
theorem mD_82 : DrMono D_82 := drawA_mono mC_82
noncomputable def B_82 : Code := Tryd.f82.body.getD .skip
theorem mc_82 (args : List (AV tau)) (m : Mem tau) (k k' : AV tau → Mem tau → Option Unit) (hk : ∀ av m, k av m = some () → k' av m = some ()) (h : c_82 args m k = some ()) : c_82 args m k' = some () := by
 unfold c_82 at h ⊢
 split at h
 · repeat' first | exact callX_mono (fun _ h => hk _ _ h) h | refine bO_mono (fun _ h => ?_) h
 · cases h
theorem w_82  (k : AV tau → Mem tau → Option Unit) : fnA E_82 C_82 D_82 Tryd.f82 B_82 [] ⟨[], []⟩ k = (k (.own 0 0) ⟨[], [some ⟨9, ([(bs []), (bs [108, 111, 97, 100]), (bs [112, 117, 116]), (bs [110, 117, 109]), (bs [97, 100, 100]), (bs [115, 117, 98]), (bs [108, 101, 115, 115]), (bs [102, 97, 105, 108])] : List ByteArray), 0⟩]⟩ : Option Unit) := by kernel_rfl
theorem okc_82 (args : List (AV tau)) (m : Mem tau) (κ : AV tau → Mem tau → Option Unit) (hh : c_82 args m κ = some ()) : ∃ av m1, κ av m1 = some () ∧ ToldA Tryd.prog TT (pnT 82) 82 args m av m1 := by
 obtain ⟨bx_, rw_⟩ := m
 unfold c_82 at hh
 simp only at hh
 split at hh
 case h_2 => cases hh
 obtain ⟨N, t, h, hκ⟩ := callX_some hh
 refine ⟨_, _, hκ, told_of_run pq okC_82 (fun _ _ _ => drawA_ok pq okC_82 hmix) (E := E_82) (fn := Tryd.f82) (body := B_82) (by kernel_rfl) (by kernel_rfl) (by kernel_rfl) (by rfl) (by exact Nat.le_of_ble_eq_true rfl) (fun k hk => ?_)⟩
 refine (w_82 k).trans ?_
 replace h : spec_l2Words.f N = some t := h
 unfold spec_l2Words.f at h
 cases h; exact hk
noncomputable def C_70 : Ctr tau Unit := ctrS 82 c_82 C_82
noncomputable def D_70 : Drw tau := drawA E_70 C_70
theorem okC_70 : CtrOk Tryd.prog TT pnT C_70 := ctrS_ok okC_82 okc_82
theorem mC_70 : CtrMono C_70 := ctrS_mono mC_82 mc_82
theorem mD_70 : DrMono D_70 := drawA_mono mC_70
noncomputable def B_70 : Code := Tryd.f70.body.getD .skip
theorem mc_70 (args : List (AV tau)) (m : Mem tau) (k k' : AV tau → Mem tau → Option Unit) (hk : ∀ av m, k av m = some () → k' av m = some ()) (h : c_70 args m k = some ()) : c_70 args m k' = some () := by
 unfold c_70 at h ⊢
 split at h
 · repeat' first | exact callX_mono (fun _ h => hk _ _ h) h | refine bO_mono (fun _ h => ?_) h
 · cases h
noncomputable def K_70_0 (k : AV tau → Mem tau → Option Unit) : Kon tau := (kBlock 0 (kS E_70 C_70 D_70 (codeP B_70 [1, 1, 1, 1, 1, 1]) (kEnd E_70 Tryd.f70 k)))
def st_70_0 (x0 : ByteArray) (x1 : Bool) (x2 : Int) (x3 : Int) : St tau := ⟨tmL 67 0 [(0, .str x0), (4, .bool x1), (5, .int .i64 x2), (6, .int .i64 x3)], ⟨[], []⟩⟩
noncomputable def LP_70_0 (k : AV tau → Mem tau → Option Unit) (x0 : ByteArray) (x1 : Bool) (x2 : Int) (x3 : Int) : Option Unit := loopA E_70 (codeA E_70 C_70 D_70 (codeP B_70 [1, 1, 1, 1, 1, 0, 1, 0, 0])) (codeP B_70 [1, 1, 1, 1, 1, 0, 1, 0, 0]) (K_70_0 k) (st_70_0 x0 x1 x2 x3)
theorem w_70_0 (k : AV tau → Mem tau → Option Unit) (x0 : ByteArray) (x1 : Bool) (x2 : Int) (x3 : Int) : codeA E_70 C_70 D_70 (codeP B_70 [1, 1, 1, 1, 1, 0, 1, 0, 0]) (kL E_70 C_70 D_70 (codeP B_70 [1, 1, 1, 1, 1, 0, 1, 0, 0]) (K_70_0 k)) (st_70_0 x0 x1 x2 x3) = (brA (decide (x3 < ((x0.size : Nat) : Int))) (brA (decide ((0 : Int) ≤ x3)) (brA (decide (x3 < ((x0.size : Nat) : Int))) (brA (decide ((btA x0 x3) < (48 : Int))) (k (.tup [.int .i64 (0 : Int), .bool false]) ⟨[], []⟩) (brA (decide ((0 : Int) ≤ x3)) (brA (decide (x3 < ((x0.size : Nat) : Int))) (brA (decide ((btA x0 x3) > (57 : Int))) (k (.tup [.int .i64 (0 : Int), .bool false]) ⟨[], []⟩) (brA (decide ((0 : Int) ≤ x3)) (brA (decide (x3 < ((x0.size : Nat) : Int))) (LP_70_0 k x0 x1 (wrap64 ((wrap64 (x2 * (10 : Int))) + (wrap64 (IntKind.wrap .u8 ((btA x0 x3) - (48 : Int)))))) (wrap64 (x3 + (1 : Int)))) (none)) (none))) (none)) (none))) (none)) (none)) (brA x1 (k (.tup [.int .i64 (wrap64 ((0 : Int) - x2)), .bool true]) ⟨[], []⟩) (k (.tup [.int .i64 x2, .bool true]) ⟨[], []⟩)) : Option Unit) := by
 simp only [← wrapA_i64]
 kernel_rfl
theorem w_70 (a0 : ByteArray) (k : AV tau → Mem tau → Option Unit) : fnA E_70 C_70 D_70 Tryd.f70 B_70 [.str a0] ⟨[], []⟩ k = (brA (decide (((a0.size : Nat) : Int) > (0 : Int))) (brA (decide ((0 : Int) < ((a0.size : Nat) : Int))) (brA (decide ((btA a0 (0 : Int)) = (45 : Int))) (brA (decide ((1 : Int) ≤ ((a0.size : Nat) : Int))) (brA (decide ((((ByteArray.extract a0 1 a0.size).size : Nat) : Int) = (0 : Int))) (k (.tup [.int .i64 (0 : Int), .bool false]) ⟨[], []⟩) (brA (decide ((((ByteArray.extract a0 1 a0.size).size : Nat) : Int) > (17 : Int))) (k (.tup [.int .i64 (0 : Int), .bool false]) ⟨[], []⟩) (brA (decide ((0 : Int) < (((ByteArray.extract a0 1 a0.size).size : Nat) : Int))) (brA (decide ((btA (ByteArray.extract a0 1 a0.size) (0 : Int)) = (48 : Int))) (brA (decide ((((ByteArray.extract a0 1 a0.size).size : Nat) : Int) > (1 : Int))) (k (.tup [.int .i64 (0 : Int), .bool false]) ⟨[], []⟩) (brA (decide ((btA a0 (0 : Int)) = (45 : Int))) (k (.tup [.int .i64 (0 : Int), .bool false]) ⟨[], []⟩) (LP_70_0 k (ByteArray.extract a0 1 a0.size) (decide ((btA a0 (0 : Int)) = (45 : Int))) (0 : Int) (0 : Int)))) (LP_70_0 k (ByteArray.extract a0 1 a0.size) (decide ((btA a0 (0 : Int)) = (45 : Int))) (0 : Int) (0 : Int))) (none)))) (none)) (brA (decide (((a0.size : Nat) : Int) = (0 : Int))) (k (.tup [.int .i64 (0 : Int), .bool false]) ⟨[], []⟩) (brA (decide (((a0.size : Nat) : Int) > (17 : Int))) (k (.tup [.int .i64 (0 : Int), .bool false]) ⟨[], []⟩) (brA (decide ((0 : Int) < ((a0.size : Nat) : Int))) (brA (decide ((btA a0 (0 : Int)) = (48 : Int))) (brA (decide (((a0.size : Nat) : Int) > (1 : Int))) (k (.tup [.int .i64 (0 : Int), .bool false]) ⟨[], []⟩) (brA (decide ((btA a0 (0 : Int)) = (45 : Int))) (k (.tup [.int .i64 (0 : Int), .bool false]) ⟨[], []⟩) (LP_70_0 k a0 (decide ((btA a0 (0 : Int)) = (45 : Int))) (0 : Int) (0 : Int)))) (LP_70_0 k a0 (decide ((btA a0 (0 : Int)) = (45 : Int))) (0 : Int) (0 : Int))) (none))))) (none)) (brA (decide (((a0.size : Nat) : Int) = (0 : Int))) (k (.tup [.int .i64 (0 : Int), .bool false]) ⟨[], []⟩) (brA (decide (((a0.size : Nat) : Int) > (17 : Int))) (k (.tup [.int .i64 (0 : Int), .bool false]) ⟨[], []⟩) (brA (decide ((0 : Int) < ((a0.size : Nat) : Int))) (brA (decide ((btA a0 (0 : Int)) = (48 : Int))) (brA (decide (((a0.size : Nat) : Int) > (1 : Int))) (k (.tup [.int .i64 (0 : Int), .bool false]) ⟨[], []⟩) (LP_70_0 k a0 false (0 : Int) (0 : Int))) (LP_70_0 k a0 false (0 : Int) (0 : Int))) (none)))) : Option Unit) := by kernel_rfl
def S_70_0 (N : Nat) : Prop := ∀ (k : AV tau → Mem tau → Option Unit) (x0 : ByteArray) (x1 : Bool) (x2 : Int) (x3 : Int) (r : Int × Bool), spec_l15Num.l0 N (x0) (x1) (x2) (x3) = some r → k (.tup [.int .i64 (r.1), .bool (r.2)]) ⟨[], []⟩ = some () → LP_70_0 k x0 x1 x2 x3 = some ()
theorem L_70 (N : Nat) : S_70_0 N := by
 induction N using Nat.strongRecOn with | _ N0 ih =>
 skip
 intro k x0 x1 x2 x3 r h hk
 rcases N0 with _ | N
 · cases h
 first | rw [spec_l15Num.l0] at h | simp only [spec_l15Num.l0] at h | (unfold spec_l15Num.l0 at h; dsimp only at h)
 refine loop_fold mC_70 mD_70 ?_
 refine (w_70_0 k x0 x1 x2 x3).trans ?_
 refine br_eti h rfl (fun c63 h => ?_) (fun c63 h => ?_)
 ·refine br_eti h dect (fun c64 h => ?_) (fun c64 h => ?_)
  ·cases h; exact hk
  cases h; exact hk
 refine br_g h rfl (fun c65 h => ?_)
 refine br_g h rfl (fun c66 h => ?_)
 refine br_ite h rfl (fun c67 h => ?_) (fun c67 h => ?_)
 ·cases h; exact hk
 refine br_g h rfl (fun c68 h => ?_)
 refine br_g h rfl (fun c69 h => ?_)
 refine br_ite h rfl (fun c70 h => ?_) (fun c70 h => ?_)
 ·cases h; exact hk
 refine br_g h rfl (fun c71 h => ?_)
 refine br_g h rfl (fun c72 h => ?_)
 exact (ih N (by omega)) _ _ _ _ _ _ h hk
theorem okc_70 (args : List (AV tau)) (m : Mem tau) (κ : AV tau → Mem tau → Option Unit) (hh : c_70 args m κ = some ()) : ∃ av m1, κ av m1 = some () ∧ ToldA Tryd.prog TT (pnT 70) 70 args m av m1 := by
 obtain ⟨bx_, rw_⟩ := m
 unfold c_70 at hh
 simp only at hh
 split at hh
 case h_2 => cases hh
 rename_i b0
 obtain ⟨a0, hx0, hh0⟩ := bO_some hh
 have ex0 := asS_some hx0
 subst ex0
 obtain ⟨N, t, h, hκ⟩ := callX_some hh0
 refine ⟨_, _, hκ, told_of_run pq okC_70 (fun _ _ _ => drawA_ok pq okC_70 hmix) (E := E_70) (fn := Tryd.f70) (body := B_70) (by kernel_rfl) (by kernel_rfl) (by kernel_rfl) (by rfl) (by exact Nat.le_of_ble_eq_true rfl) (fun k hk => ?_)⟩
 refine (w_70 a0 k).trans ?_
 replace h : spec_l15Num.f N a0 = some t := h
 unfold spec_l15Num.f at h
 refine br_eti h rfl (fun c73 h => ?_) (fun c73 h => ?_)
 ·refine br_ite h rfl (fun c74 h => ?_) (fun c74 h => ?_)
  ·cases h; exact hk
  refine br_ite h rfl (fun c75 h => ?_) (fun c75 h => ?_)
  ·cases h; exact hk
  refine br_g h rfl (fun c76 h => ?_)
  refine br_eti h rfl (fun c77 h => ?_) (fun c77 h => ?_)
  ·exact (L_70 N) _ _ _ _ _ _ h hk
  refine br_eti h rfl (fun c78 h => ?_) (fun c78 h => ?_)
  ·exact (L_70 N) _ _ _ _ _ _ h hk
  cases h; exact hk
 refine br_g h rfl (fun c79 h => ?_)
 refine br_eti h rfl (fun c80 h => ?_) (fun c80 h => ?_)
 ·refine br_ite h rfl (fun c81 h => ?_) (fun c81 h => ?_)
  ·cases h; exact hk
  refine br_ite h rfl (fun c82 h => ?_) (fun c82 h => ?_)
  ·cases h; exact hk
  refine br_g h rfl (fun c83 h => ?_)
  refine br_eti h rfl (fun c84 h => ?_) (fun c84 h => ?_)
  ·exact (L_70 N) _ _ _ _ _ _ h hk
  refine br_ite h rfl (fun c85 h => ?_) (fun c85 h => ?_)
  ·cases h; exact hk
  refine br_ite h rfl (fun c86 h => ?_) (fun c86 h => ?_)
  ·cases h; exact hk
  exact (L_70 N) _ _ _ _ _ _ h hk
 refine br_g h rfl (fun c87 h => ?_)
 refine br_ite h rfl (fun c88 h => ?_) (fun c88 h => ?_)
 ·cases h; exact hk
 refine br_ite h rfl (fun c89 h => ?_) (fun c89 h => ?_)
 ·cases h; exact hk
 refine br_g h rfl (fun c90 h => ?_)
 refine br_eti h rfl (fun c91 h => ?_) (fun c91 h => ?_)
 ·exact (L_70 N) _ _ _ _ _ _ h hk
 refine br_ite h rfl (fun c92 h => ?_) (fun c92 h => ?_)
 ·cases h; exact hk
 refine br_ite h rfl (fun c93 h => ?_) (fun c93 h => ?_)
 ·cases h; exact hk
 exact (L_70 N) _ _ _ _ _ _ h hk
noncomputable def C_51 : Ctr tau Unit := ctrS 70 c_70 C_70
noncomputable def D_51 : Drw tau := drawA E_51 C_51
theorem okC_51 : CtrOk Tryd.prog TT pnT C_51 := ctrS_ok okC_70 okc_70
theorem mC_51 : CtrMono C_51 := ctrS_mono mC_70 mc_70
theorem mD_51 : DrMono D_51 := drawA_mono mC_51
noncomputable def B_51 : Code := Tryd.f51.body.getD .skip
theorem mc_51 (args : List (AV tau)) (m : Mem tau) (k k' : AV tau → Mem tau → Option Unit) (hk : ∀ av m, k av m = some () → k' av m = some ()) (h : c_51 args m k = some ()) : c_51 args m k' = some () := by
 unfold c_51 at h ⊢
 split at h
 · repeat' first | exact callX_mono (fun _ h => hk _ _ h) h | refine bO_mono (fun _ h => ?_) h
 · cases h
noncomputable def K_51_0 (k : AV tau → Mem tau → Option Unit) : Kon tau := (kBlock 0 (kS E_51 C_51 D_51 (codeP B_51 [1, 1, 1, 1]) (kEnd E_51 Tryd.f51 k)))
noncomputable def K_51_1 (k : AV tau → Mem tau → Option Unit) : Kon tau := (kBlock 2 (kS E_51 C_51 D_51 (codeP B_51 [1, 1, 1, 1, 1, 1]) (kEnd E_51 Tryd.f51 k)))
def st_51_0 (x0 : Int) (x1 : Int) (x2 : Int) (x3 : Int) (x4 : Int) (x5 : Int) (x6 : Int) (x7 : Int) (x8 : Int) (x9 : (List ByteArray)) : St tau := ⟨tmL 88 0 [(2, .ptr 0 0), (4, .own 0 0), (5, .ptr 1 0), (6, .int .i64 x0)], ⟨[some (60, [.int .i64 x1, .int .i64 x2, .int .i64 x3, .int .i64 x4]), some (60, [.int .i64 x5, .int .i64 x6, .int .i64 x7, .int .i64 x8])], [some ⟨9, x9, 0⟩]⟩⟩
noncomputable def LP_51_0 (k : AV tau → Mem tau → Option Unit) (x0 : Int) (x1 : Int) (x2 : Int) (x3 : Int) (x4 : Int) (x5 : Int) (x6 : Int) (x7 : Int) (x8 : Int) (x9 : (List ByteArray)) : Option Unit := loopA E_51 (codeA E_51 C_51 D_51 (codeP B_51 [1, 1, 1, 0, 1, 0, 0])) (codeP B_51 [1, 1, 1, 0, 1, 0, 0]) (K_51_0 k) (st_51_0 x0 x1 x2 x3 x4 x5 x6 x7 x8 x9)
def st_51_1 (x0 : Int) (x1 : Int) (x2 : Int) (x3 : Int) (x4 : Int) (x5 : Int) (x6 : Int) (x7 : Int) (x8 : Int) (x9 : (List ByteArray)) (x10 : (List Int)) : St tau := ⟨tmL 88 0 [(2, .ptr 0 0), (4, .own 0 0), (5, .ptr 1 0), (7, .own 1 0), (8, .int .i64 x0)], ⟨[some (60, [.int .i64 x1, .int .i64 x2, .int .i64 x3, .int .i64 x4]), some (60, [.int .i64 x5, .int .i64 x6, .int .i64 x7, .int .i64 x8])], [some ⟨9, x9, 0⟩, some ⟨3, x10, 0⟩]⟩⟩
noncomputable def LP_51_1 (k : AV tau → Mem tau → Option Unit) (x0 : Int) (x1 : Int) (x2 : Int) (x3 : Int) (x4 : Int) (x5 : Int) (x6 : Int) (x7 : Int) (x8 : Int) (x9 : (List ByteArray)) (x10 : (List Int)) : Option Unit := loopA E_51 (codeA E_51 C_51 D_51 (codeP B_51 [1, 1, 1, 1, 1, 0, 1, 0, 0])) (codeP B_51 [1, 1, 1, 1, 1, 0, 1, 0, 0]) (K_51_1 k) (st_51_1 x0 x1 x2 x3 x4 x5 x6 x7 x8 x9 x10)
theorem w_51_0 (k : AV tau → Mem tau → Option Unit) (x0 : Int) (x1 : Int) (x2 : Int) (x3 : Int) (x4 : Int) (x5 : Int) (x6 : Int) (x7 : Int) (x8 : Int) (x9 : (List ByteArray)) : codeA E_51 C_51 D_51 (codeP B_51 [1, 1, 1, 0, 1, 0, 0]) (kL E_51 C_51 D_51 (codeP B_51 [1, 1, 1, 0, 1, 0, 0]) (K_51_0 k)) (st_51_0 x0 x1 x2 x3 x4 x5 x6 x7 x8 x9) = (brA (decide (x0 ≤ (7 : Int))) (brA (decide ((0 : Int) < ((x9.length : Nat) : Int))) (callX (fun n => spec_l2Words.f n) fun t1 => brA (decide ((0 : Int) ≤ x0)) (brA (decide (x0 < ((t1.length : Nat) : Int))) (brA (decide ((rdOf (default : ByteArray) t1 x0) = (rdOf (default : ByteArray) x9 (0 : Int)))) (LP_51_0 k (wrap64 (x0 + (1 : Int))) x1 x2 x3 x4 x0 x6 x7 x8 x9) (LP_51_0 k (wrap64 (x0 + (1 : Int))) x1 x2 x3 x4 x5 x6 x7 x8 x9)) (none)) (none)) (none)) (LP_51_1 k (1 : Int) x1 x2 x3 x4 x5 x6 x7 x8 x9 ([] : List Int)) : Option Unit) := by
 simp only [← wrapA_i64]
 kernel_rfl
theorem w_51_1 (k : AV tau → Mem tau → Option Unit) (x0 : Int) (x1 : Int) (x2 : Int) (x3 : Int) (x4 : Int) (x5 : Int) (x6 : Int) (x7 : Int) (x8 : Int) (x9 : (List ByteArray)) (x10 : (List Int)) : codeA E_51 C_51 D_51 (codeP B_51 [1, 1, 1, 1, 1, 0, 1, 0, 0]) (kL E_51 C_51 D_51 (codeP B_51 [1, 1, 1, 1, 1, 0, 1, 0, 0]) (K_51_1 k)) (st_51_1 x0 x1 x2 x3 x4 x5 x6 x7 x8 x9 x10) = (brA (decide (x0 < ((x9.length : Nat) : Int))) (brA (decide ((0 : Int) ≤ x0)) (brA (decide (x0 < ((x9.length : Nat) : Int))) (callX (fun n => spec_l15Num.f n (rdOf (default : ByteArray) x9 x0)) fun t2 => brA (!t2.2) (k (.tup [.agg [.int .i64 x5, .int .i64 x6, .int .i64 x7, .int .i64 x8], .bool false]) ⟨[], []⟩) (brA (decide ((x10.length + 1) ≤ 17592186044416)) (LP_51_1 k (wrap64 (x0 + (1 : Int))) x1 x2 x3 x4 x5 x6 x7 x8 x9 (x10 ++ ([t2.1] : List Int))) (none))) (none)) (none)) (brA (decide ((0 : Int) ≤ x5)) (brA (decide (x5 < (8 : Int))) (brA (!(decide (((x10.length : Nat) : Int) = (rd ([(-(1 : Int)), (2 : Int), (2 : Int), (2 : Int), (2 : Int), (2 : Int), (3 : Int), (0 : Int)] : List Int) x5)))) (k (.tup [.agg [.int .i64 x5, .int .i64 x6, .int .i64 x7, .int .i64 x8], .bool false]) ⟨[], []⟩) (brA (decide (((x10.length : Nat) : Int) > (0 : Int))) (brA (decide ((0 : Int) < ((x10.length : Nat) : Int))) (brA (decide ((1 : Int) < ((x10.length : Nat) : Int))) (brA (decide (x5 = (3 : Int))) (brA (decide ((1 : Int) < ((x10.length : Nat) : Int))) (brA (decide (x5 = (6 : Int))) (brA (decide ((2 : Int) < ((x10.length : Nat) : Int))) (k (.tup [.agg [.int .i64 x5, .int .i64 (rd x10 (0 : Int)), .int .i64 (0 : Int), .int .i64 (rd x10 (2 : Int))], .bool true]) ⟨[], []⟩) (none)) (k (.tup [.agg [.int .i64 x5, .int .i64 (rd x10 (0 : Int)), .int .i64 (0 : Int), .int .i64 (rd x10 (1 : Int))], .bool true]) ⟨[], []⟩)) (none)) (brA (decide (x5 = (6 : Int))) (brA (decide ((2 : Int) < ((x10.length : Nat) : Int))) (k (.tup [.agg [.int .i64 x5, .int .i64 (rd x10 (0 : Int)), .int .i64 (rd x10 (1 : Int)), .int .i64 (rd x10 (2 : Int))], .bool true]) ⟨[], []⟩) (none)) (k (.tup [.agg [.int .i64 x5, .int .i64 (rd x10 (0 : Int)), .int .i64 (rd x10 (1 : Int)), .int .i64 x8], .bool true]) ⟨[], []⟩))) (none)) (none)) (brA (decide (x5 = (3 : Int))) (brA (decide ((1 : Int) < ((x10.length : Nat) : Int))) (brA (decide (x5 = (6 : Int))) (brA (decide ((2 : Int) < ((x10.length : Nat) : Int))) (k (.tup [.agg [.int .i64 x5, .int .i64 x6, .int .i64 (0 : Int), .int .i64 (rd x10 (2 : Int))], .bool true]) ⟨[], []⟩) (none)) (k (.tup [.agg [.int .i64 x5, .int .i64 x6, .int .i64 (0 : Int), .int .i64 (rd x10 (1 : Int))], .bool true]) ⟨[], []⟩)) (none)) (brA (decide (x5 = (6 : Int))) (brA (decide ((2 : Int) < ((x10.length : Nat) : Int))) (k (.tup [.agg [.int .i64 x5, .int .i64 x6, .int .i64 x7, .int .i64 (rd x10 (2 : Int))], .bool true]) ⟨[], []⟩) (none)) (k (.tup [.agg [.int .i64 x5, .int .i64 x6, .int .i64 x7, .int .i64 x8], .bool true]) ⟨[], []⟩))))) (none)) (none)) : Option Unit) := by
 simp only [← wrapA_i64]
 kernel_rfl
theorem w_51 (a0 : ByteArray) (k : AV tau → Mem tau → Option Unit) : fnA E_51 C_51 D_51 Tryd.f51 B_51 [.str a0] ⟨[], []⟩ k = (callX (fun n => spec_l15Cut.f n a0 (32 : Int)) fun t0 => LP_51_0 k (1 : Int) (0 : Int) (0 : Int) (0 : Int) (0 : Int) (0 : Int) (0 : Int) (0 : Int) (0 : Int) t0 : Option Unit) := by kernel_rfl
def S_51_0 (N : Nat) : Prop := ∀ (k : AV tau → Mem tau → Option Unit) (x0 : Int) (x1 : Int) (x2 : Int) (x3 : Int) (x4 : Int) (x5 : Int) (x6 : Int) (x7 : Int) (x8 : Int) (x9 : (List ByteArray)) (r : Int × Int × Int × Int × Bool), spec_l2One.l0 N (x0) (x1) (x2) (x3) (x4) (x5) (x6) (x7) (x8) (x9) = some r → k (.tup [.agg [.int .i64 (r.1), .int .i64 (r.2.1), .int .i64 (r.2.2.1), .int .i64 (r.2.2.2.1)], .bool (r.2.2.2.2)]) ⟨[], []⟩ = some () → LP_51_0 k x0 x1 x2 x3 x4 x5 x6 x7 x8 x9 = some ()
def S_51_1 (N : Nat) : Prop := ∀ (k : AV tau → Mem tau → Option Unit) (x0 : Int) (x1 : Int) (x2 : Int) (x3 : Int) (x4 : Int) (x5 : Int) (x6 : Int) (x7 : Int) (x8 : Int) (x9 : (List ByteArray)) (x10 : (List Int)) (r : Int × Int × Int × Int × Bool), spec_l2One.l1 N (x0) (x1) (x2) (x3) (x4) (x5) (x6) (x7) (x8) (x9) (x10) = some r → k (.tup [.agg [.int .i64 (r.1), .int .i64 (r.2.1), .int .i64 (r.2.2.1), .int .i64 (r.2.2.2.1)], .bool (r.2.2.2.2)]) ⟨[], []⟩ = some () → LP_51_1 k x0 x1 x2 x3 x4 x5 x6 x7 x8 x9 x10 = some ()
theorem L_51 (N : Nat) : S_51_0 N ∧ S_51_1 N := by
 induction N using Nat.strongRecOn with | _ N0 ih =>
 refine ⟨?_, ?_⟩
 ·intro k x0 x1 x2 x3 x4 x5 x6 x7 x8 x9 r h hk
  rcases N0 with _ | N
  · cases h
  first | rw [spec_l2One.l0] at h | simp only [spec_l2One.l0] at h | (unfold spec_l2One.l0 at h; dsimp only at h)
  refine loop_fold mC_51 mD_51 ?_
  refine (w_51_0 k x0 x1 x2 x3 x4 x5 x6 x7 x8 x9).trans ?_
  refine br_eti h rfl (fun c63 h => ?_) (fun c63 h => ?_)
  ·exact (ih N (by omega)).2 _ _ _ _ _ _ _ _ _ _ _ _ _ h hk
  refine br_g h rfl (fun c64 h => ?_)
  refine call_h N h (fun t1 e65 h => ?_)
  refine br_g h rfl (fun c66 h => ?_)
  refine br_g h rfl (fun c67 h => ?_)
  refine br_ite h rfl (fun c68 h => ?_) (fun c68 h => ?_)
  ·exact (ih N (by omega)).1 _ _ _ _ _ _ _ _ _ _ _ _ h hk
  exact (ih N (by omega)).1 _ _ _ _ _ _ _ _ _ _ _ _ h hk
 ·intro k x0 x1 x2 x3 x4 x5 x6 x7 x8 x9 x10 r h hk
  rcases N0 with _ | N
  · cases h
  first | rw [spec_l2One.l1] at h | simp only [spec_l2One.l1] at h | (unfold spec_l2One.l1 at h; dsimp only at h)
  refine loop_fold mC_51 mD_51 ?_
  refine (w_51_1 k x0 x1 x2 x3 x4 x5 x6 x7 x8 x9 x10).trans ?_
  refine br_ite h rfl (fun c69 h => ?_) (fun c69 h => ?_)
  ·refine br_g h rfl (fun c70 h => ?_)
   refine br_g h rfl (fun c71 h => ?_)
   refine call_h N h (fun t2 e72 h => ?_)
   refine br_etn h (congrArg not dect) (fun c73 h => ?_) (fun c73 h => ?_)
   ·cases h; exact hk
   refine br_g h rfl (fun c74 h => ?_)
   exact (ih N (by omega)).2 _ _ _ _ _ _ _ _ _ _ _ _ _ h hk
  refine br_g h rfl (fun c75 h => ?_)
  refine br_g h rfl (fun c76 h => ?_)
  refine br_etn h rfl (fun c77 h => ?_) (fun c77 h => ?_)
  ·cases h; exact hk
  refine br_eti h rfl (fun c78 h => ?_) (fun c78 h => ?_)
  ·refine br_eti h rfl (fun c79 h => ?_) (fun c79 h => ?_)
   ·refine br_eti h rfl (fun c80 h => ?_) (fun c80 h => ?_)
    ·cases h; exact hk
    refine br_g h rfl (fun c81 h => ?_)
    cases h; exact hk
   refine br_g h rfl (fun c82 h => ?_)
   refine br_eti h rfl (fun c83 h => ?_) (fun c83 h => ?_)
   ·cases h; exact hk
   refine br_g h rfl (fun c84 h => ?_)
   cases h; exact hk
  refine br_g h rfl (fun c85 h => ?_)
  refine br_g h rfl (fun c86 h => ?_)
  refine br_eti h rfl (fun c87 h => ?_) (fun c87 h => ?_)
  ·refine br_eti h rfl (fun c88 h => ?_) (fun c88 h => ?_)
   ·cases h; exact hk
   refine br_g h rfl (fun c89 h => ?_)
   cases h; exact hk
  refine br_g h rfl (fun c90 h => ?_)
  refine br_eti h rfl (fun c91 h => ?_) (fun c91 h => ?_)
  ·cases h; exact hk
  refine br_g h rfl (fun c92 h => ?_)
  cases h; exact hk
theorem okc_51 (args : List (AV tau)) (m : Mem tau) (κ : AV tau → Mem tau → Option Unit) (hh : c_51 args m κ = some ()) : ∃ av m1, κ av m1 = some () ∧ ToldA Tryd.prog TT (pnT 51) 51 args m av m1 := by
 obtain ⟨bx_, rw_⟩ := m
 unfold c_51 at hh
 simp only at hh
 split at hh
 case h_2 => cases hh
 rename_i b0
 obtain ⟨a0, hx0, hh0⟩ := bO_some hh
 have ex0 := asS_some hx0
 subst ex0
 obtain ⟨N, t, h, hκ⟩ := callX_some hh0
 refine ⟨_, _, hκ, told_of_run pq okC_51 (fun _ _ _ => drawA_ok pq okC_51 hmix) (E := E_51) (fn := Tryd.f51) (body := B_51) (by kernel_rfl) (by kernel_rfl) (by kernel_rfl) (by rfl) (by exact Nat.le_of_ble_eq_true rfl) (fun k hk => ?_)⟩
 refine (w_51 a0 k).trans ?_
 replace h : spec_l2One.f N a0 = some t := h
 unfold spec_l2One.f at h
 refine call_h N h (fun t0 e93 h => ?_)
 exact (L_51 N).1 _ _ _ _ _ _ _ _ _ _ _ _ h hk
noncomputable def C_11 : Ctr tau Unit := ctrS 51 c_51 C_51
noncomputable def D_11 : Drw tau := drawA E_11 C_11
theorem okC_11 : CtrOk Tryd.prog TT pnT C_11 := ctrS_ok okC_51 okc_51
theorem mC_11 : CtrMono C_11 := ctrS_mono mC_51 mc_51
theorem mD_11 : DrMono D_11 := drawA_mono mC_11
noncomputable def B_11 : Code := Tryd.f11.body.getD .skip
theorem mc_11 (args : List (AV tau)) (m : Mem tau) (k k' : AV tau → Mem tau → Option Unit) (hk : ∀ av m, k av m = some () → k' av m = some ()) (h : c_11 args m k = some ()) : c_11 args m k' = some () := by
 unfold c_11 at h ⊢
 split at h
 · repeat' first | exact callX_mono (fun _ h => hk _ _ h) h | refine bO_mono (fun _ h => ?_) h
 · cases h
noncomputable def K_11_0 (k : AV tau → Mem tau → Option Unit) : Kon tau := (kBlock 0 (kS E_11 C_11 D_11 (codeP B_11 [1, 1, 1, 1, 1, 1]) (kEnd E_11 Tryd.f11 k)))
def st_11_0 (x0 : Int) (x1 : (List S60)) (x2 : (List ByteArray)) : St tau := ⟨tmL 42 0 [(4, .own 0 0), (5, .own 1 0), (6, .int .i64 x0)], ⟨[], [some ⟨60, x1, 0⟩, some ⟨9, x2, 0⟩]⟩⟩
noncomputable def LP_11_0 (k : AV tau → Mem tau → Option Unit) (x0 : Int) (x1 : (List S60)) (x2 : (List ByteArray)) : Option Unit := loopA E_11 (codeA E_11 C_11 D_11 (codeP B_11 [1, 1, 1, 1, 1, 0, 1, 0, 0])) (codeP B_11 [1, 1, 1, 1, 1, 0, 1, 0, 0]) (K_11_0 k) (st_11_0 x0 x1 x2)
theorem w_11_0 (k : AV tau → Mem tau → Option Unit) (x0 : Int) (x1 : (List S60)) (x2 : (List ByteArray)) : codeA E_11 C_11 D_11 (codeP B_11 [1, 1, 1, 1, 1, 0, 1, 0, 0]) (kL E_11 C_11 D_11 (codeP B_11 [1, 1, 1, 1, 1, 0, 1, 0, 0]) (K_11_0 k)) (st_11_0 x0 x1 x2) = (brA (decide (x0 < ((x2.length : Nat) : Int))) (brA (decide ((0 : Int) ≤ x0)) (brA (decide (x0 < ((x2.length : Nat) : Int))) (callX (fun n => spec_l2One.f n (rdOf (default : ByteArray) x2 x0)) fun t1 => brA (!t1.2.2.2.2) (k (.tup [.own 0 0, .bool false]) ⟨[], [some ⟨60, ([] : List S60), 0⟩]⟩) (brA (decide ((x1.length + 1) ≤ 4398046511104)) (LP_11_0 k (wrap64 (x0 + (1 : Int))) (x1 ++ ([(⟨t1.1, t1.2.1, t1.2.2.1, t1.2.2.2.1⟩ : S60)] : List S60)) x2) (none))) (none)) (none)) (callX (fun n => spec_ProgOk.f n x1) fun t2 => brA (!t2) (k (.tup [.own 0 0, .bool false]) ⟨[], [some ⟨60, ([] : List S60), 0⟩]⟩) (k (.tup [.own 0 0, .bool true]) ⟨[], [some ⟨60, x1, 0⟩]⟩)) : Option Unit) := by
 simp only [← wrapA_i64]
 kernel_rfl
theorem w_11 (a0 : ByteArray) (k : AV tau → Mem tau → Option Unit) : fnA E_11 C_11 D_11 Tryd.f11 B_11 [.str a0] ⟨[], []⟩ k = (brA (decide (((a0.size : Nat) : Int) > (400 : Int))) (k (.tup [.own 0 0, .bool false]) ⟨[], [some ⟨60, ([] : List S60), 0⟩]⟩) (brA (decide (a0 = (bs []))) (k (.tup [.own 0 0, .bool true]) ⟨[], [some ⟨60, ([] : List S60), 0⟩]⟩) (callX (fun n => spec_l15Cut.f n a0 (44 : Int)) fun t0 => LP_11_0 k (0 : Int) ([] : List S60) t0)) : Option Unit) := by kernel_rfl
def S_11_0 (N : Nat) : Prop := ∀ (k : AV tau → Mem tau → Option Unit) (x0 : Int) (x1 : (List S60)) (x2 : (List ByteArray)) (r : (List S60) × Bool), spec_ProgRead.l0 N (x0) (x1) (x2) = some r → k (.tup [.own 0 0, .bool (r.2)]) ⟨[], [some ⟨60, r.1, 0⟩]⟩ = some () → LP_11_0 k x0 x1 x2 = some ()
theorem L_11 (N : Nat) : S_11_0 N := by
 induction N using Nat.strongRecOn with | _ N0 ih =>
 skip
 intro k x0 x1 x2 r h hk
 rcases N0 with _ | N
 · cases h
 first | rw [spec_ProgRead.l0] at h | simp only [spec_ProgRead.l0] at h | (unfold spec_ProgRead.l0 at h; dsimp only at h)
 refine loop_fold mC_11 mD_11 ?_
 refine (w_11_0 k x0 x1 x2).trans ?_
 refine br_eti h rfl (fun c23 h => ?_) (fun c23 h => ?_)
 ·refine call_h N h (fun t2 e24 h => ?_)
  refine br_itn h (congrArg not dect) (fun c25 h => ?_) (fun c25 h => ?_)
  ·cases h; exact hk
  cases h; exact hk
 refine br_g h rfl (fun c26 h => ?_)
 refine br_g h rfl (fun c27 h => ?_)
 refine call_h N h (fun t1 e28 h => ?_)
 refine br_etn h (congrArg not dect) (fun c29 h => ?_) (fun c29 h => ?_)
 ·cases h; exact hk
 refine br_g h rfl (fun c30 h => ?_)
 exact (ih N (by omega)) _ _ _ _ _ h hk
theorem okc_11 (args : List (AV tau)) (m : Mem tau) (κ : AV tau → Mem tau → Option Unit) (hh : c_11 args m κ = some ()) : ∃ av m1, κ av m1 = some () ∧ ToldA Tryd.prog TT (pnT 11) 11 args m av m1 := by
 obtain ⟨bx_, rw_⟩ := m
 unfold c_11 at hh
 simp only at hh
 split at hh
 case h_2 => cases hh
 rename_i b0
 obtain ⟨a0, hx0, hh0⟩ := bO_some hh
 have ex0 := asS_some hx0
 subst ex0
 obtain ⟨N, t, h, hκ⟩ := callX_some hh0
 refine ⟨_, _, hκ, told_of_run pq okC_11 (fun _ _ _ => drawA_ok pq okC_11 hmix) (E := E_11) (fn := Tryd.f11) (body := B_11) (by kernel_rfl) (by kernel_rfl) (by kernel_rfl) (by rfl) (by exact Nat.le_of_ble_eq_true rfl) (fun k hk => ?_)⟩
 refine (w_11 a0 k).trans ?_
 replace h : spec_ProgRead.f N a0 = some t := h
 unfold spec_ProgRead.f at h
 refine br_ite h rfl (fun c31 h => ?_) (fun c31 h => ?_)
 ·cases h; exact hk
 refine br_ite h rfl (fun c32 h => ?_) (fun c32 h => ?_)
 ·cases h; exact hk
 refine call_h N h (fun t0 e33 h => ?_)
 exact (L_11 N) _ _ _ _ _ h hk
noncomputable def C_61 : Ctr tau Unit := ctrS 11 c_11 C_11
noncomputable def D_61 : Drw tau := drawA E_61 C_61
theorem okC_61 : CtrOk Tryd.prog TT pnT C_61 := ctrS_ok okC_11 okc_11
theorem mC_61 : CtrMono C_61 := ctrS_mono mC_11 mc_11
theorem mD_61 : DrMono D_61 := drawA_mono mC_61
noncomputable def B_61 : Code := Tryd.f61.body.getD .skip
theorem mc_61 (args : List (AV tau)) (m : Mem tau) (k k' : AV tau → Mem tau → Option Unit) (hk : ∀ av m, k av m = some () → k' av m = some ()) (h : c_61 args m k = some ()) : c_61 args m k' = some () := by
 unfold c_61 at h ⊢
 split at h
 · repeat' first | exact callX_mono (fun _ h => hk _ _ h) h | refine bO_mono (fun _ h => ?_) h
 · cases h
noncomputable def K_61_0 (k : AV tau → Mem tau → Option Unit) : Kon tau := (kBlock 0 (kS E_61 C_61 D_61 (codeP B_61 [1, 1, 1, 1, 1]) (kEnd E_61 Tryd.f61 k)))
def st_61_0 (x0 : ByteArray) (x1 : ByteArray) (x2 : Int) (x3 : Int) : St tau := ⟨tmL 62 0 [(0, .str x0), (4, .str x1), (5, .int .i64 x2), (6, .int .i64 x3)], ⟨[], []⟩⟩
noncomputable def LP_61_0 (k : AV tau → Mem tau → Option Unit) (x0 : ByteArray) (x1 : ByteArray) (x2 : Int) (x3 : Int) : Option Unit := loopA E_61 (codeA E_61 C_61 D_61 (codeP B_61 [1, 1, 1, 1, 0, 1, 0, 0])) (codeP B_61 [1, 1, 1, 1, 0, 1, 0, 0]) (K_61_0 k) (st_61_0 x0 x1 x2 x3)
theorem w_61_0 (k : AV tau → Mem tau → Option Unit) (x0 : ByteArray) (x1 : ByteArray) (x2 : Int) (x3 : Int) : codeA E_61 C_61 D_61 (codeP B_61 [1, 1, 1, 1, 0, 1, 0, 0]) (kL E_61 C_61 D_61 (codeP B_61 [1, 1, 1, 1, 0, 1, 0, 0]) (K_61_0 k)) (st_61_0 x0 x1 x2 x3) = (brA (decide (x3 < ((x1.size : Nat) : Int))) (brA (decide ((0 : Int) ≤ x3)) (brA (decide (x3 < ((x1.size : Nat) : Int))) (callX (fun n => impl_in.f (wrap64 (btA x1 x3)) (48 : Int) (57 : Int)) fun t1 => brA (!t1) (k (.tup [.int .i64 (0 : Int), .bool false]) ⟨[], []⟩) (brA (decide ((0 : Int) ≤ x3)) (brA (decide (x3 < ((x1.size : Nat) : Int))) (LP_61_0 k x0 x1 (wrap64 ((wrap64 ((10 : Int) * x2)) + (wrap64 (IntKind.wrap .u8 ((btA x1 x3) - (48 : Int)))))) (wrap64 (x3 + (1 : Int)))) (none)) (none))) (none)) (none)) (brA (decide (((x0.size : Nat) : Int) > ((x1.size : Nat) : Int))) (k (.tup [.int .i64 (wrap64 ((0 : Int) - x2)), .bool true]) ⟨[], []⟩) (k (.tup [.int .i64 x2, .bool true]) ⟨[], []⟩)) : Option Unit) := by
 simp only [← wrapA_i64]
 kernel_rfl
theorem w_61 (a0 : ByteArray) (k : AV tau → Mem tau → Option Unit) : fnA E_61 C_61 D_61 Tryd.f61 B_61 [.str a0] ⟨[], []⟩ k = (callX (fun n => strings_TrimPrefix.f n a0 (bs [45])) fun t0 => brA (decide (((t0.size : Nat) : Int) < (1 : Int))) (k (.tup [.int .i64 (0 : Int), .bool false]) ⟨[], []⟩) (brA (decide (((t0.size : Nat) : Int) > (9 : Int))) (k (.tup [.int .i64 (0 : Int), .bool false]) ⟨[], []⟩) (brA (decide ((0 : Int) < ((t0.size : Nat) : Int))) (brA (decide ((btA t0 (0 : Int)) = (48 : Int))) (brA (decide (((t0.size : Nat) : Int) > (1 : Int))) (k (.tup [.int .i64 (0 : Int), .bool false]) ⟨[], []⟩) (brA (decide (((a0.size : Nat) : Int) > ((t0.size : Nat) : Int))) (k (.tup [.int .i64 (0 : Int), .bool false]) ⟨[], []⟩) (LP_61_0 k a0 t0 (0 : Int) (0 : Int)))) (LP_61_0 k a0 t0 (0 : Int) (0 : Int))) (none))) : Option Unit) := by kernel_rfl
def S_61_0 (N : Nat) : Prop := ∀ (k : AV tau → Mem tau → Option Unit) (x0 : ByteArray) (x1 : ByteArray) (x2 : Int) (x3 : Int) (r : Int × Bool), impl_integer.l0 N (x0) (x1) (x2) (x3) = some r → k (.tup [.int .i64 (r.1), .bool (r.2)]) ⟨[], []⟩ = some () → LP_61_0 k x0 x1 x2 x3 = some ()
theorem L_61 (N : Nat) : S_61_0 N := by
 induction N using Nat.strongRecOn with | _ N0 ih =>
 skip
 intro k x0 x1 x2 x3 r h hk
 rcases N0 with _ | N
 · cases h
 first | rw [impl_integer.l0] at h | simp only [impl_integer.l0] at h | (unfold impl_integer.l0 at h; dsimp only at h)
 refine loop_fold mC_61 mD_61 ?_
 refine (w_61_0 k x0 x1 x2 x3).trans ?_
 refine br_eti h rfl (fun c31 h => ?_) (fun c31 h => ?_)
 ·refine br_eti h rfl (fun c32 h => ?_) (fun c32 h => ?_)
  ·cases h; exact hk
  cases h; exact hk
 refine br_g h rfl (fun c33 h => ?_)
 refine br_g h rfl (fun c34 h => ?_)
 refine call_h 0 h (fun t1 e35 h => ?_)
 refine br_etn h (congrArg not dect) (fun c36 h => ?_) (fun c36 h => ?_)
 ·cases h; exact hk
 refine br_g h rfl (fun c37 h => ?_)
 refine br_g h rfl (fun c38 h => ?_)
 exact (ih N (by omega)) _ _ _ _ _ _ h hk
theorem okc_61 (args : List (AV tau)) (m : Mem tau) (κ : AV tau → Mem tau → Option Unit) (hh : c_61 args m κ = some ()) : ∃ av m1, κ av m1 = some () ∧ ToldA Tryd.prog TT (pnT 61) 61 args m av m1 := by
 obtain ⟨bx_, rw_⟩ := m
 unfold c_61 at hh
 simp only at hh
 split at hh
 case h_2 => cases hh
 rename_i b0
 obtain ⟨a0, hx0, hh0⟩ := bO_some hh
 have ex0 := asS_some hx0
 subst ex0
 obtain ⟨N, t, h, hκ⟩ := callX_some hh0
 refine ⟨_, _, hκ, told_of_run pq okC_61 (fun _ _ _ => drawA_ok pq okC_61 hmix) (E := E_61) (fn := Tryd.f61) (body := B_61) (by kernel_rfl) (by kernel_rfl) (by kernel_rfl) (by rfl) (by exact Nat.le_of_ble_eq_true rfl) (fun k hk => ?_)⟩
 refine (w_61 a0 k).trans ?_
 replace h : impl_integer.f N a0 = some t := h
 unfold impl_integer.f at h
 refine call_h N h (fun t0 e39 h => ?_)
 refine br_ite h rfl (fun c40 h => ?_) (fun c40 h => ?_)
 ·cases h; exact hk
 refine br_ite h rfl (fun c41 h => ?_) (fun c41 h => ?_)
 ·cases h; exact hk
 refine br_g h rfl (fun c42 h => ?_)
 refine br_eti h rfl (fun c43 h => ?_) (fun c43 h => ?_)
 ·exact (L_61 N) _ _ _ _ _ _ h hk
 refine br_ite h rfl (fun c44 h => ?_) (fun c44 h => ?_)
 ·cases h; exact hk
 refine br_eti h rfl (fun c45 h => ?_) (fun c45 h => ?_)
 ·exact (L_61 N) _ _ _ _ _ _ h hk
 cases h; exact hk
noncomputable def C_72 : Ctr tau Unit := ctrS 61 c_61 C_61
noncomputable def D_72 : Drw tau := drawA E_72 C_72
theorem okC_72 : CtrOk Tryd.prog TT pnT C_72 := ctrS_ok okC_61 okc_61
theorem mC_72 : CtrMono C_72 := ctrS_mono mC_61 mc_61
theorem mD_72 : DrMono D_72 := drawA_mono mC_72
noncomputable def B_72 : Code := Tryd.f72.body.getD .skip
theorem mc_72 (args : List (AV tau)) (m : Mem tau) (k k' : AV tau → Mem tau → Option Unit) (hk : ∀ av m, k av m = some () → k' av m = some ()) (h : c_72 args m k = some ()) : c_72 args m k' = some () := by
 unfold c_72 at h ⊢
 split at h
 · repeat' first | exact callX_mono (fun _ h => hk _ _ h) h | refine bO_mono (fun _ h => ?_) h
 · cases h
theorem w_72 (a0_0 : Int) (a0_1 : Int) (a0_2 : Int) (a0_3 : Int) (k : AV tau → Mem tau → Option Unit) : fnA E_72 C_72 D_72 Tryd.f72 B_72 [.agg [.int .i64 a0_0, .int .i64 a0_1, .int .i64 a0_2, .int .i64 a0_3]] ⟨[], []⟩ k = (callX (fun n => strconv_Itoa.f n a0_1) fun t0 => brA (decide ((1 + t0.size) ≤ 9223372036854775807)) (callX (fun n => strconv_Itoa.f n a0_2) fun t1 => brA (decide ((1 + t1.size) ≤ 9223372036854775807)) (callX (fun n => strconv_Itoa.f n a0_3) fun t2 => brA (decide ((1 + t2.size) ≤ 9223372036854775807)) (brA (decide (a0_0 = (1 : Int))) (brA (decide ((4 + ((bs [32]) ++ t0).size) ≤ 9223372036854775807)) (brA (decide ((((bs [108, 111, 97, 100]) ++ ((bs [32]) ++ t0)).size + ((bs [32]) ++ t1).size) ≤ 9223372036854775807)) (k (.str (((bs [108, 111, 97, 100]) ++ ((bs [32]) ++ t0)) ++ ((bs [32]) ++ t1))) ⟨[], []⟩) (none)) (none)) (brA (decide (a0_0 = (2 : Int))) (brA (decide ((3 + ((bs [32]) ++ t0).size) ≤ 9223372036854775807)) (brA (decide ((((bs [112, 117, 116]) ++ ((bs [32]) ++ t0)).size + ((bs [32]) ++ t1).size) ≤ 9223372036854775807)) (k (.str (((bs [112, 117, 116]) ++ ((bs [32]) ++ t0)) ++ ((bs [32]) ++ t1))) ⟨[], []⟩) (none)) (none)) (brA (decide (a0_0 = (3 : Int))) (brA (decide ((3 + ((bs [32]) ++ t0).size) ≤ 9223372036854775807)) (brA (decide ((((bs [110, 117, 109]) ++ ((bs [32]) ++ t0)).size + ((bs [32]) ++ t2).size) ≤ 9223372036854775807)) (k (.str (((bs [110, 117, 109]) ++ ((bs [32]) ++ t0)) ++ ((bs [32]) ++ t2))) ⟨[], []⟩) (none)) (none)) (brA (decide (a0_0 = (4 : Int))) (brA (decide ((3 + ((bs [32]) ++ t0).size) ≤ 9223372036854775807)) (brA (decide ((((bs [97, 100, 100]) ++ ((bs [32]) ++ t0)).size + ((bs [32]) ++ t1).size) ≤ 9223372036854775807)) (k (.str (((bs [97, 100, 100]) ++ ((bs [32]) ++ t0)) ++ ((bs [32]) ++ t1))) ⟨[], []⟩) (none)) (none)) (brA (decide (a0_0 = (5 : Int))) (brA (decide ((3 + ((bs [32]) ++ t0).size) ≤ 9223372036854775807)) (brA (decide ((((bs [115, 117, 98]) ++ ((bs [32]) ++ t0)).size + ((bs [32]) ++ t1).size) ≤ 9223372036854775807)) (k (.str (((bs [115, 117, 98]) ++ ((bs [32]) ++ t0)) ++ ((bs [32]) ++ t1))) ⟨[], []⟩) (none)) (none)) (brA (decide (a0_0 = (6 : Int))) (brA (decide ((4 + ((bs [32]) ++ t0).size) ≤ 9223372036854775807)) (brA (decide ((((bs [108, 101, 115, 115]) ++ ((bs [32]) ++ t0)).size + ((bs [32]) ++ t1).size) ≤ 9223372036854775807)) (brA (decide (((((bs [108, 101, 115, 115]) ++ ((bs [32]) ++ t0)) ++ ((bs [32]) ++ t1)).size + ((bs [32]) ++ t2).size) ≤ 9223372036854775807)) (k (.str ((((bs [108, 101, 115, 115]) ++ ((bs [32]) ++ t0)) ++ ((bs [32]) ++ t1)) ++ ((bs [32]) ++ t2))) ⟨[], []⟩) (none)) (none)) (none)) (brA (decide (a0_0 = (7 : Int))) (k (.str (bs [102, 97, 105, 108])) ⟨[], []⟩) (k (.str (bs [110, 111, 110, 101])) ⟨[], []⟩)))))))) (none)) (none)) (none) : Option Unit) := by kernel_rfl
theorem okc_72 (args : List (AV tau)) (m : Mem tau) (κ : AV tau → Mem tau → Option Unit) (hh : c_72 args m κ = some ()) : ∃ av m1, κ av m1 = some () ∧ ToldA Tryd.prog TT (pnT 72) 72 args m av m1 := by
 obtain ⟨bx_, rw_⟩ := m
 unfold c_72 at hh
 simp only at hh
 split at hh
 case h_2 => cases hh
 rename_i b0 b1 b2 b3
 obtain ⟨a0_0, hx0, hh0⟩ := bO_some hh
 obtain ⟨a0_1, hx1, hh1⟩ := bO_some hh0
 obtain ⟨a0_2, hx2, hh2⟩ := bO_some hh1
 obtain ⟨a0_3, hx3, hh3⟩ := bO_some hh2
 have ex0 := asI_some hx0
 have ex1 := asI_some hx1
 have ex2 := asI_some hx2
 have ex3 := asI_some hx3
 subst ex0 ex1 ex2 ex3
 obtain ⟨N, t, h, hκ⟩ := callX_some hh3
 refine ⟨_, _, hκ, told_of_run pq okC_72 (fun _ _ _ => drawA_ok pq okC_72 hmix) (E := E_72) (fn := Tryd.f72) (body := B_72) (by kernel_rfl) (by kernel_rfl) (by kernel_rfl) (by rfl) (by exact Nat.le_of_ble_eq_true rfl) (fun k hk => ?_)⟩
 refine (w_72 a0_0 a0_1 a0_2 a0_3 k).trans ?_
 replace h : impl_insText.f N a0_0 a0_1 a0_2 a0_3 = some t := h
 unfold impl_insText.f at h
 refine call_h N h (fun t0 e27 h => ?_)
 refine br_g h rfl (fun c28 h => ?_)
 refine call_h N h (fun t1 e29 h => ?_)
 refine br_g h rfl (fun c30 h => ?_)
 refine call_h N h (fun t2 e31 h => ?_)
 refine br_g h rfl (fun c32 h => ?_)
 refine br_ite h rfl (fun c33 h => ?_) (fun c33 h => ?_)
 ·refine br_g h rfl (fun c34 h => ?_)
  refine br_g h rfl (fun c35 h => ?_)
  cases h; exact hk
 refine br_ite h rfl (fun c36 h => ?_) (fun c36 h => ?_)
 ·refine br_g h rfl (fun c37 h => ?_)
  refine br_g h rfl (fun c38 h => ?_)
  cases h; exact hk
 refine br_ite h rfl (fun c39 h => ?_) (fun c39 h => ?_)
 ·refine br_g h rfl (fun c40 h => ?_)
  refine br_g h rfl (fun c41 h => ?_)
  cases h; exact hk
 refine br_ite h rfl (fun c42 h => ?_) (fun c42 h => ?_)
 ·refine br_g h rfl (fun c43 h => ?_)
  refine br_g h rfl (fun c44 h => ?_)
  cases h; exact hk
 refine br_ite h rfl (fun c45 h => ?_) (fun c45 h => ?_)
 ·refine br_g h rfl (fun c46 h => ?_)
  refine br_g h rfl (fun c47 h => ?_)
  cases h; exact hk
 refine br_eti h rfl (fun c48 h => ?_) (fun c48 h => ?_)
 ·refine br_ite h rfl (fun c49 h => ?_) (fun c49 h => ?_)
  ·cases h; exact hk
  cases h; exact hk
 refine br_g h rfl (fun c50 h => ?_)
 refine br_g h rfl (fun c51 h => ?_)
 refine br_g h rfl (fun c52 h => ?_)
 cases h; exact hk
noncomputable def C_53 : Ctr tau Unit := ctrS 72 c_72 C_72
noncomputable def D_53 : Drw tau := drawA E_53 C_53
theorem okC_53 : CtrOk Tryd.prog TT pnT C_53 := ctrS_ok okC_72 okc_72
theorem mC_53 : CtrMono C_53 := ctrS_mono mC_72 mc_72
theorem mD_53 : DrMono D_53 := drawA_mono mC_53
noncomputable def B_53 : Code := Tryd.f53.body.getD .skip
theorem mc_53 (args : List (AV tau)) (m : Mem tau) (k k' : AV tau → Mem tau → Option Unit) (hk : ∀ av m, k av m = some () → k' av m = some ()) (h : c_53 args m k = some ()) : c_53 args m k' = some () := by
 unfold c_53 at h ⊢
 split at h
 · repeat' first | exact callX_mono (fun _ h => hk _ _ h) h | refine bO_mono (fun _ h => ?_) h
 · cases h
noncomputable def K_53_0 (k : AV tau → Mem tau → Option Unit) : Kon tau := (kBlock 0 (kS E_53 C_53 D_53 (codeP B_53 [1, 1, 1, 1]) (kEnd E_53 Tryd.f53 k)))
noncomputable def K_53_1 (k : AV tau → Mem tau → Option Unit) : Kon tau := (kBlock 2 (kS E_53 C_53 D_53 (codeP B_53 [1, 1, 1, 1, 1, 1, 1]) (kEnd E_53 Tryd.f53 k)))
def st_53_0 (x0 : ByteArray) (x1 : (List ByteArray)) (x2 : Int) (x3 : Int) (x4 : Int) (x5 : Int) (x6 : Int) (x7 : Int) (x8 : (List Int)) : St tau := ⟨tmL 102 0 [(0, .str x0), (2, .ptr 0 0), (5, .own 0 0), (16, .sl 9 x1), (17, .int .i64 x2), (18, .int .i64 x3)], ⟨[some (60, [.int .i64 x4, .int .i64 x5, .int .i64 x6, .int .i64 x7])], [some ⟨3, x8, 0⟩]⟩⟩
noncomputable def LP_53_0 (k : AV tau → Mem tau → Option Unit) (x0 : ByteArray) (x1 : (List ByteArray)) (x2 : Int) (x3 : Int) (x4 : Int) (x5 : Int) (x6 : Int) (x7 : Int) (x8 : (List Int)) : Option Unit := loopA E_53 (codeA E_53 C_53 D_53 (codeP B_53 [1, 1, 1, 0, 1, 0, 0])) (codeP B_53 [1, 1, 1, 0, 1, 0, 0]) (K_53_0 k) (st_53_0 x0 x1 x2 x3 x4 x5 x6 x7 x8)
def st_53_1 (x0 : ByteArray) (x1 : Int) (x2 : Int) (x3 : Int) (x4 : Int) (x5 : Int) (x6 : Int) (x7 : (List S60)) : St tau := ⟨tmL 102 0 [(0, .str x0), (2, .ptr 0 0), (85, .own 0 0), (86, .int .i64 x1), (87, .int .i64 x2)], ⟨[some (60, [.int .i64 x3, .int .i64 x4, .int .i64 x5, .int .i64 x6])], [some ⟨60, x7, 0⟩]⟩⟩
noncomputable def LP_53_1 (k : AV tau → Mem tau → Option Unit) (x0 : ByteArray) (x1 : Int) (x2 : Int) (x3 : Int) (x4 : Int) (x5 : Int) (x6 : Int) (x7 : (List S60)) : Option Unit := loopA E_53 (codeA E_53 C_53 D_53 (codeP B_53 [1, 1, 1, 1, 1, 1, 0, 1, 0, 0])) (codeP B_53 [1, 1, 1, 1, 1, 1, 0, 1, 0, 0]) (K_53_1 k) (st_53_1 x0 x1 x2 x3 x4 x5 x6 x7)
theorem w_53_0 (k : AV tau → Mem tau → Option Unit) (x0 : ByteArray) (x1 : (List ByteArray)) (x2 : Int) (x3 : Int) (x4 : Int) (x5 : Int) (x6 : Int) (x7 : Int) (x8 : (List Int)) : codeA E_53 C_53 D_53 (codeP B_53 [1, 1, 1, 0, 1, 0, 0]) (kL E_53 C_53 D_53 (codeP B_53 [1, 1, 1, 0, 1, 0, 0]) (K_53_0 k)) (st_53_0 x0 x1 x2 x3 x4 x5 x6 x7 x8) = (brA (decide (x3 < x2)) (brA (decide ((0 : Int) ≤ x3)) (brA (decide (x3 < ((x1.length : Nat) : Int))) (callX (fun n => impl_integer.f n (rdOf (default : ByteArray) x1 x3)) fun t1 => brA (!t1.2) (k (.tup [.agg [.int .i64 (0 : Int), .int .i64 (0 : Int), .int .i64 (0 : Int), .int .i64 (0 : Int)], .bool false]) ⟨[], []⟩) (brA (decide ((x8.length + 1) ≤ 17592186044416)) (LP_53_0 k x0 x1 x2 (wrap64 (x3 + (1 : Int))) x4 x5 x6 x7 (x8 ++ ([t1.1] : List Int))) (none))) (none)) (none)) (brA (decide ((x8.length + 3) ≤ 17592186044416)) (brA (decide ((0 : Int) < (((x8 ++ ([(0 : Int), (0 : Int), (0 : Int)] : List Int)).length : Nat) : Int))) (brA (decide ((1 : Int) < (((x8 ++ ([(0 : Int), (0 : Int), (0 : Int)] : List Int)).length : Nat) : Int))) (brA (decide ((0 : Int) < (((x8 ++ ([(0 : Int), (0 : Int), (0 : Int)] : List Int)).length : Nat) : Int))) (brA (decide ((1 : Int) < (((x8 ++ ([(0 : Int), (0 : Int), (0 : Int)] : List Int)).length : Nat) : Int))) (brA (decide ((0 : Int) < (((x8 ++ ([(0 : Int), (0 : Int), (0 : Int)] : List Int)).length : Nat) : Int))) (brA (decide ((1 : Int) < (((x8 ++ ([(0 : Int), (0 : Int), (0 : Int)] : List Int)).length : Nat) : Int))) (brA (decide ((0 : Int) < (((x8 ++ ([(0 : Int), (0 : Int), (0 : Int)] : List Int)).length : Nat) : Int))) (brA (decide ((1 : Int) < (((x8 ++ ([(0 : Int), (0 : Int), (0 : Int)] : List Int)).length : Nat) : Int))) (brA (decide ((0 : Int) < (((x8 ++ ([(0 : Int), (0 : Int), (0 : Int)] : List Int)).length : Nat) : Int))) (brA (decide ((1 : Int) < (((x8 ++ ([(0 : Int), (0 : Int), (0 : Int)] : List Int)).length : Nat) : Int))) (brA (decide ((0 : Int) < (((x8 ++ ([(0 : Int), (0 : Int), (0 : Int)] : List Int)).length : Nat) : Int))) (brA (decide ((1 : Int) < (((x8 ++ ([(0 : Int), (0 : Int), (0 : Int)] : List Int)).length : Nat) : Int))) (brA (decide ((2 : Int) < (((x8 ++ ([(0 : Int), (0 : Int), (0 : Int)] : List Int)).length : Nat) : Int))) (LP_53_1 k x0 (7 : Int) (0 : Int) x4 x5 x6 x7 ([(⟨(1 : Int), (rd (x8 ++ ([(0 : Int), (0 : Int), (0 : Int)] : List Int)) (0 : Int)), (rd (x8 ++ ([(0 : Int), (0 : Int), (0 : Int)] : List Int)) (1 : Int)), (0 : Int)⟩ : S60), (⟨(2 : Int), (rd (x8 ++ ([(0 : Int), (0 : Int), (0 : Int)] : List Int)) (0 : Int)), (rd (x8 ++ ([(0 : Int), (0 : Int), (0 : Int)] : List Int)) (1 : Int)), (0 : Int)⟩ : S60), (⟨(3 : Int), (rd (x8 ++ ([(0 : Int), (0 : Int), (0 : Int)] : List Int)) (0 : Int)), (0 : Int), (rd (x8 ++ ([(0 : Int), (0 : Int), (0 : Int)] : List Int)) (1 : Int))⟩ : S60), (⟨(4 : Int), (rd (x8 ++ ([(0 : Int), (0 : Int), (0 : Int)] : List Int)) (0 : Int)), (rd (x8 ++ ([(0 : Int), (0 : Int), (0 : Int)] : List Int)) (1 : Int)), (0 : Int)⟩ : S60), (⟨(5 : Int), (rd (x8 ++ ([(0 : Int), (0 : Int), (0 : Int)] : List Int)) (0 : Int)), (rd (x8 ++ ([(0 : Int), (0 : Int), (0 : Int)] : List Int)) (1 : Int)), (0 : Int)⟩ : S60), (⟨(6 : Int), (rd (x8 ++ ([(0 : Int), (0 : Int), (0 : Int)] : List Int)) (0 : Int)), (rd (x8 ++ ([(0 : Int), (0 : Int), (0 : Int)] : List Int)) (1 : Int)), (rd (x8 ++ ([(0 : Int), (0 : Int), (0 : Int)] : List Int)) (2 : Int))⟩ : S60), (⟨(7 : Int), (0 : Int), (0 : Int), (0 : Int)⟩ : S60)] : List S60)) (none)) (none)) (none)) (none)) (none)) (none)) (none)) (none)) (none)) (none)) (none)) (none)) (none)) (none)) : Option Unit) := by
 simp only [← wrapA_i64]
 kernel_rfl
theorem w_53_1 (k : AV tau → Mem tau → Option Unit) (x0 : ByteArray) (x1 : Int) (x2 : Int) (x3 : Int) (x4 : Int) (x5 : Int) (x6 : Int) (x7 : (List S60)) : codeA E_53 C_53 D_53 (codeP B_53 [1, 1, 1, 1, 1, 1, 0, 1, 0, 0]) (kL E_53 C_53 D_53 (codeP B_53 [1, 1, 1, 1, 1, 1, 0, 1, 0, 0]) (K_53_1 k)) (st_53_1 x0 x1 x2 x3 x4 x5 x6 x7) = (brA (decide (x2 < x1)) (brA (decide ((0 : Int) ≤ x2)) (brA (decide (x2 < ((x7.length : Nat) : Int))) (callX (fun n => impl_insOk.f n ((rd_T60 x7 x2).f0) ((rd_T60 x7 x2).f1) ((rd_T60 x7 x2).f2) ((rd_T60 x7 x2).f3)) fun t2 => brA t2 (callX (fun n => impl_insText.f n ((rd_T60 x7 x2).f0) ((rd_T60 x7 x2).f1) ((rd_T60 x7 x2).f2) ((rd_T60 x7 x2).f3)) fun t3 => brA (decide (t3 = x0)) (k (.tup [.agg [.int .i64 ((rd_T60 x7 x2).f0), .int .i64 ((rd_T60 x7 x2).f1), .int .i64 ((rd_T60 x7 x2).f2), .int .i64 ((rd_T60 x7 x2).f3)], .bool true]) ⟨[], []⟩) (LP_53_1 k x0 x1 (wrap64 (x2 + (1 : Int))) x3 x4 x5 x6 x7)) (LP_53_1 k x0 x1 (wrap64 (x2 + (1 : Int))) x3 x4 x5 x6 x7)) (none)) (none)) (k (.tup [.agg [.int .i64 (0 : Int), .int .i64 (0 : Int), .int .i64 (0 : Int), .int .i64 (0 : Int)], .bool false]) ⟨[], []⟩) : Option Unit) := by
 simp only [← wrapA_i64]
 kernel_rfl
theorem w_53 (a0 : ByteArray) (k : AV tau → Mem tau → Option Unit) : fnA E_53 C_53 D_53 Tryd.f53 B_53 [.str a0] ⟨[], []⟩ k = (callX (fun n => strings_Split.f n a0 (bs [32])) fun t0 => brA (decide ((1 : Int) ≤ ((t0.length : Nat) : Int))) (LP_53_0 k a0 (List.drop 1 t0) (((List.drop 1 t0).length : Nat) : Int) (0 : Int) (0 : Int) (0 : Int) (0 : Int) (0 : Int) ([] : List Int)) (none) : Option Unit) := by kernel_rfl
def S_53_0 (N : Nat) : Prop := ∀ (k : AV tau → Mem tau → Option Unit) (x0 : ByteArray) (x1 : (List ByteArray)) (x2 : Int) (x3 : Int) (x4 : Int) (x5 : Int) (x6 : Int) (x7 : Int) (x8 : (List Int)) (r : Int × Int × Int × Int × Bool), impl_insRead.l0 N (x0) (x1) (x2) (x3) (x4) (x5) (x6) (x7) (x8) = some r → k (.tup [.agg [.int .i64 (r.1), .int .i64 (r.2.1), .int .i64 (r.2.2.1), .int .i64 (r.2.2.2.1)], .bool (r.2.2.2.2)]) ⟨[], []⟩ = some () → LP_53_0 k x0 x1 x2 x3 x4 x5 x6 x7 x8 = some ()
def S_53_1 (N : Nat) : Prop := ∀ (k : AV tau → Mem tau → Option Unit) (x0 : ByteArray) (x1 : Int) (x2 : Int) (x3 : Int) (x4 : Int) (x5 : Int) (x6 : Int) (x7 : (List S60)) (r : Int × Int × Int × Int × Bool), impl_insRead.l1 N (x0) (x1) (x2) (x3) (x4) (x5) (x6) (x7) = some r → k (.tup [.agg [.int .i64 (r.1), .int .i64 (r.2.1), .int .i64 (r.2.2.1), .int .i64 (r.2.2.2.1)], .bool (r.2.2.2.2)]) ⟨[], []⟩ = some () → LP_53_1 k x0 x1 x2 x3 x4 x5 x6 x7 = some ()
theorem L_53 (N : Nat) : S_53_0 N ∧ S_53_1 N := by
 induction N using Nat.strongRecOn with | _ N0 ih =>
 refine ⟨?_, ?_⟩
 ·intro k x0 x1 x2 x3 x4 x5 x6 x7 x8 r h hk
  rcases N0 with _ | N
  · cases h
  first | rw [impl_insRead.l0] at h | simp only [impl_insRead.l0] at h | (unfold impl_insRead.l0 at h; dsimp only at h)
  refine loop_fold mC_53 mD_53 ?_
  refine (w_53_0 k x0 x1 x2 x3 x4 x5 x6 x7 x8).trans ?_
  refine br_ite h rfl (fun c59 h => ?_) (fun c59 h => ?_)
  ·refine br_g h rfl (fun c60 h => ?_)
   refine br_g h rfl (fun c61 h => ?_)
   refine call_h N h (fun t1 e62 h => ?_)
   refine br_etn h (congrArg not dect) (fun c63 h => ?_) (fun c63 h => ?_)
   ·cases h; exact hk
   refine br_g h rfl (fun c64 h => ?_)
   exact (ih N (by omega)).1 _ _ _ _ _ _ _ _ _ _ _ h hk
  refine br_g h rfl (fun c65 h => ?_)
  refine br_g h rfl (fun c66 h => ?_)
  refine br_g h rfl (fun c67 h => ?_)
  refine br_g h rfl (fun c68 h => ?_)
  refine br_g h rfl (fun c69 h => ?_)
  refine br_g h rfl (fun c70 h => ?_)
  refine br_g h rfl (fun c71 h => ?_)
  refine br_g h rfl (fun c72 h => ?_)
  refine br_g h rfl (fun c73 h => ?_)
  refine br_g h rfl (fun c74 h => ?_)
  refine br_g h rfl (fun c75 h => ?_)
  refine br_g h rfl (fun c76 h => ?_)
  refine br_g h rfl (fun c77 h => ?_)
  refine br_g h rfl (fun c78 h => ?_)
  exact (ih N (by omega)).2 _ _ _ _ _ _ _ _ _ _ h hk
 ·intro k x0 x1 x2 x3 x4 x5 x6 x7 r h hk
  rcases N0 with _ | N
  · cases h
  first | rw [impl_insRead.l1] at h | simp only [impl_insRead.l1] at h | (unfold impl_insRead.l1 at h; dsimp only at h)
  refine loop_fold mC_53 mD_53 ?_
  refine (w_53_1 k x0 x1 x2 x3 x4 x5 x6 x7).trans ?_
  refine br_eti h rfl (fun c79 h => ?_) (fun c79 h => ?_)
  ·cases h; exact hk
  refine br_g h rfl (fun c80 h => ?_)
  refine br_g h rfl (fun c81 h => ?_)
  refine call_h N h (fun t2 e82 h => ?_)
  refine br_eti h dect (fun c83 h => ?_) (fun c83 h => ?_)
  ·exact (ih N (by omega)).2 _ _ _ _ _ _ _ _ _ _ h hk
  refine call_h N h (fun t3 e84 h => ?_)
  refine br_eti h rfl (fun c85 h => ?_) (fun c85 h => ?_)
  ·exact (ih N (by omega)).2 _ _ _ _ _ _ _ _ _ _ h hk
  cases h; exact hk
theorem okc_53 (args : List (AV tau)) (m : Mem tau) (κ : AV tau → Mem tau → Option Unit) (hh : c_53 args m κ = some ()) : ∃ av m1, κ av m1 = some () ∧ ToldA Tryd.prog TT (pnT 53) 53 args m av m1 := by
 obtain ⟨bx_, rw_⟩ := m
 unfold c_53 at hh
 simp only at hh
 split at hh
 case h_2 => cases hh
 rename_i b0
 obtain ⟨a0, hx0, hh0⟩ := bO_some hh
 have ex0 := asS_some hx0
 subst ex0
 obtain ⟨N, t, h, hκ⟩ := callX_some hh0
 refine ⟨_, _, hκ, told_of_run pq okC_53 (fun _ _ _ => drawA_ok pq okC_53 hmix) (E := E_53) (fn := Tryd.f53) (body := B_53) (by kernel_rfl) (by kernel_rfl) (by kernel_rfl) (by rfl) (by exact Nat.le_of_ble_eq_true rfl) (fun k hk => ?_)⟩
 refine (w_53 a0 k).trans ?_
 replace h : impl_insRead.f N a0 = some t := h
 unfold impl_insRead.f at h
 refine call_h N h (fun t0 e86 h => ?_)
 refine br_g h rfl (fun c87 h => ?_)
 exact (L_53 N).1 _ _ _ _ _ _ _ _ _ _ _ h hk
noncomputable def C_12 : Ctr tau Unit := ctrS 53 c_53 C_53
noncomputable def D_12 : Drw tau := drawA E_12 C_12
theorem okC_12 : CtrOk Tryd.prog TT pnT C_12 := ctrS_ok okC_53 okc_53
theorem mC_12 : CtrMono C_12 := ctrS_mono mC_53 mc_53
theorem mD_12 : DrMono D_12 := drawA_mono mC_12
noncomputable def B_12 : Code := Tryd.f12.body.getD .skip
theorem mc_12 (args : List (AV tau)) (m : Mem tau) (k k' : AV tau → Mem tau → Option Unit) (hk : ∀ av m, k av m = some () → k' av m = some ()) (h : c_12 args m k = some ()) : c_12 args m k' = some () := by
 unfold c_12 at h ⊢
 split at h
 · repeat' first | exact callX_mono (fun _ h => hk _ _ h) h | refine bO_mono (fun _ h => ?_) h
 · cases h
noncomputable def K_12_0 (k : AV tau → Mem tau → Option Unit) : Kon tau := (kBlock 0 (kS E_12 C_12 D_12 (codeP B_12 [1, 1, 1, 1, 1]) (kEnd E_12 Tryd.f12 k)))
def st_12_0 (x0 : Int) (x1 : Int) (x2 : (List S60)) (x3 : (List ByteArray)) : St tau := ⟨tmL 38 0 [(4, .own 0 0), (15, .own 1 0), (16, .int .i64 x0), (17, .int .i64 x1)], ⟨[], [some ⟨60, x2, 0⟩, some ⟨9, x3, 0⟩]⟩⟩
noncomputable def LP_12_0 (k : AV tau → Mem tau → Option Unit) (x0 : Int) (x1 : Int) (x2 : (List S60)) (x3 : (List ByteArray)) : Option Unit := loopA E_12 (codeA E_12 C_12 D_12 (codeP B_12 [1, 1, 1, 1, 0, 1, 0, 0])) (codeP B_12 [1, 1, 1, 1, 0, 1, 0, 0]) (K_12_0 k) (st_12_0 x0 x1 x2 x3)
theorem w_12_0 (k : AV tau → Mem tau → Option Unit) (x0 : Int) (x1 : Int) (x2 : (List S60)) (x3 : (List ByteArray)) : codeA E_12 C_12 D_12 (codeP B_12 [1, 1, 1, 1, 0, 1, 0, 0]) (kL E_12 C_12 D_12 (codeP B_12 [1, 1, 1, 1, 0, 1, 0, 0]) (K_12_0 k)) (st_12_0 x0 x1 x2 x3) = (brA (decide (x1 < x0)) (brA (decide ((0 : Int) ≤ x1)) (brA (decide (x1 < ((x3.length : Nat) : Int))) (callX (fun n => impl_insRead.f n (rdOf (default : ByteArray) x3 x1)) fun t1 => brA (!t1.2.2.2.2) (k (.tup [.own 0 0, .bool false]) ⟨[], [some ⟨60, ([] : List S60), 0⟩]⟩) (brA (decide ((x2.length + 1) ≤ 4398046511104)) (LP_12_0 k x0 (wrap64 (x1 + (1 : Int))) (x2 ++ ([(⟨t1.1, t1.2.1, t1.2.2.1, t1.2.2.2.1⟩ : S60)] : List S60)) x3) (none))) (none)) (none)) (callX (fun n => impl_ProgOk.f n x2) fun t2 => brA (!t2) (k (.tup [.own 0 0, .bool false]) ⟨[], [some ⟨60, ([] : List S60), 0⟩]⟩) (callX (fun n => impl_copied_impl_Ins.f x2) fun t3 => k (.tup [.own 0 0, .bool true]) ⟨[], [some ⟨60, t3, 0⟩]⟩)) : Option Unit) := by
 simp only [← wrapA_i64]
 kernel_rfl
theorem w_12 (a0 : ByteArray) (k : AV tau → Mem tau → Option Unit) : fnA E_12 C_12 D_12 Tryd.f12 B_12 [.str a0] ⟨[], []⟩ k = (brA (decide (((a0.size : Nat) : Int) > (400 : Int))) (k (.tup [.own 0 0, .bool false]) ⟨[], [some ⟨60, ([] : List S60), 0⟩]⟩) (brA (decide (a0 = (bs []))) (k (.tup [.own 0 0, .bool true]) ⟨[], [some ⟨60, ([] : List S60), 0⟩]⟩) (callX (fun n => strings_Split.f n a0 (bs [44])) fun t0 => LP_12_0 k ((t0.length : Nat) : Int) (0 : Int) ([] : List S60) t0)) : Option Unit) := by kernel_rfl
def S_12_0 (N : Nat) : Prop := ∀ (k : AV tau → Mem tau → Option Unit) (x0 : Int) (x1 : Int) (x2 : (List S60)) (x3 : (List ByteArray)) (r : (List S60) × Bool), impl_ProgRead.l0 N (x0) (x1) (x2) (x3) = some r → k (.tup [.own 0 0, .bool (r.2)]) ⟨[], [some ⟨60, r.1, 0⟩]⟩ = some () → LP_12_0 k x0 x1 x2 x3 = some ()
theorem L_12 (N : Nat) : S_12_0 N := by
 induction N using Nat.strongRecOn with | _ N0 ih =>
 skip
 intro k x0 x1 x2 x3 r h hk
 rcases N0 with _ | N
 · cases h
 first | rw [impl_ProgRead.l0] at h | simp only [impl_ProgRead.l0] at h | (unfold impl_ProgRead.l0 at h; dsimp only at h)
 refine loop_fold mC_12 mD_12 ?_
 refine (w_12_0 k x0 x1 x2 x3).trans ?_
 refine br_eti h rfl (fun c25 h => ?_) (fun c25 h => ?_)
 ·refine call_h N h (fun t2 e26 h => ?_)
  refine br_etn h (congrArg not dect) (fun c27 h => ?_) (fun c27 h => ?_)
  ·cases h; exact hk
  refine call_h 0 h (fun t3 e28 h => ?_)
  cases h; exact hk
 refine br_g h rfl (fun c29 h => ?_)
 refine br_g h rfl (fun c30 h => ?_)
 refine call_h N h (fun t1 e31 h => ?_)
 refine br_etn h (congrArg not dect) (fun c32 h => ?_) (fun c32 h => ?_)
 ·cases h; exact hk
 refine br_g h rfl (fun c33 h => ?_)
 exact (ih N (by omega)) _ _ _ _ _ _ h hk
theorem okc_12 (args : List (AV tau)) (m : Mem tau) (κ : AV tau → Mem tau → Option Unit) (hh : c_12 args m κ = some ()) : ∃ av m1, κ av m1 = some () ∧ ToldA Tryd.prog TT (pnT 12) 12 args m av m1 := by
 obtain ⟨bx_, rw_⟩ := m
 unfold c_12 at hh
 simp only at hh
 split at hh
 case h_2 => cases hh
 rename_i b0
 obtain ⟨a0, hx0, hh0⟩ := bO_some hh
 have ex0 := asS_some hx0
 subst ex0
 obtain ⟨N, t, h, hκ⟩ := callX_some hh0
 refine ⟨_, _, hκ, told_of_run pq okC_12 (fun _ _ _ => drawA_ok pq okC_12 hmix) (E := E_12) (fn := Tryd.f12) (body := B_12) (by kernel_rfl) (by kernel_rfl) (by kernel_rfl) (by rfl) (by exact Nat.le_of_ble_eq_true rfl) (fun k hk => ?_)⟩
 refine (w_12 a0 k).trans ?_
 replace h : impl_ProgRead.f N a0 = some t := h
 unfold impl_ProgRead.f at h
 refine br_ite h rfl (fun c34 h => ?_) (fun c34 h => ?_)
 ·cases h; exact hk
 refine br_ite h rfl (fun c35 h => ?_) (fun c35 h => ?_)
 ·cases h; exact hk
 refine call_h N h (fun t0 e36 h => ?_)
 exact (L_12 N) _ _ _ _ _ _ h hk
noncomputable def C_3 : Ctr tau Unit := ctrS 12 c_12 C_12
noncomputable def D_3 : Drw tau := drawA E_3 C_3
theorem okC_3 : CtrOk Tryd.prog TT pnT C_3 := ctrS_ok okC_12 okc_12
theorem mC_3 : CtrMono C_3 := ctrS_mono mC_12 mc_12
theorem mD_3 : DrMono D_3 := drawA_mono mC_3
noncomputable def B_3 : Code := Tryd.f3.body.getD .skip
theorem mc_3 (args : List (AV tau)) (m : Mem tau) (k k' : AV tau → Mem tau → Option Unit) (hk : ∀ av m, k av m = some () → k' av m = some ()) (h : c_3 args m k = some ()) : c_3 args m k' = some () := by
 unfold c_3 at h ⊢
 split at h
 · repeat' first | exact callX_mono (fun _ h => hk _ _ h) h | refine bO_mono (fun _ h => ?_) h
 · cases h
theorem w_3 (a0 : ByteArray) (k : AV tau → Mem tau → Option Unit) : fnA E_3 C_3 D_3 Tryd.f3 B_3 [.str a0] ⟨[], []⟩ k = (brA (decide (((a0.size : Nat) : Int) > (1048576 : Int))) (k (.bool true) ⟨[], []⟩) (callX (fun n => spec_ProgRead.f n a0) fun t0 => callX (fun n => impl_ProgRead.f n a0) fun t1 => callX (fun n => laws_eqInsS.f n t1.1 t0.1) fun t2 => brA (!t2) (k (.bool false) ⟨[], []⟩) (brA (!(t1.2 == t0.2)) (k (.bool false) ⟨[], []⟩) (callX (fun n => laws_markInsS.f n t1.1 (1 : Int)) fun t3 => callX (fun n => laws_heldInsS.f n t3.2 (1 : Int)) fun t4 => brA (decide (t4 < (0 : Int))) (k (.bool false) ⟨[], []⟩) (brA (!(decide (t4 = t3.1))) (k (.bool false) ⟨[], []⟩) (callX (fun n => impl_ProgRead.f n a0) fun t5 => callX (fun n => laws_eqInsS.f n t5.1 t0.1) fun t6 => brA (!t6) (k (.bool false) ⟨[], []⟩) (brA (!(t5.2 == t0.2)) (k (.bool false) ⟨[], []⟩) (callX (fun n => laws_heldInsS.f n t3.2 (1 : Int)) fun t7 => brA (decide (t7 < (0 : Int))) (k (.bool false) ⟨[], []⟩) (brA (!(decide (t7 = t3.1))) (k (.bool false) ⟨[], []⟩) (k (.bool true) ⟨[], []⟩))))))))) : Option Unit) := by kernel_rfl
theorem okc_3 (args : List (AV tau)) (m : Mem tau) (κ : AV tau → Mem tau → Option Unit) (hh : c_3 args m κ = some ()) : ∃ av m1, κ av m1 = some () ∧ ToldA Tryd.prog TT (pnT 3) 3 args m av m1 := by
 obtain ⟨bx_, rw_⟩ := m
 unfold c_3 at hh
 simp only at hh
 split at hh
 case h_2 => cases hh
 rename_i b0
 obtain ⟨a0, hx0, hh0⟩ := bO_some hh
 have ex0 := asS_some hx0
 subst ex0
 obtain ⟨N, t, h, hκ⟩ := callX_some hh0
 refine ⟨_, _, hκ, told_of_run pq okC_3 (fun _ _ _ => drawA_ok pq okC_3 hmix) (E := E_3) (fn := Tryd.f3) (body := B_3) (by kernel_rfl) (by kernel_rfl) (by kernel_rfl) (by rfl) (by exact Nat.le_of_ble_eq_true rfl) (fun k hk => ?_)⟩
 refine (w_3 a0 k).trans ?_
 replace h : laws_FnExactProgRead.f N a0 = some t := h
 unfold laws_FnExactProgRead.f at h
 refine br_ite h rfl (fun c18 h => ?_) (fun c18 h => ?_)
 ·cases h; exact hk
 refine call_h N h (fun t0 e19 h => ?_)
 refine call_h N h (fun t1 e20 h => ?_)
 refine call_h N h (fun t2 e21 h => ?_)
 refine br_etn h (congrArg not dect) (fun c22 h => ?_) (fun c22 h => ?_)
 ·cases h; exact hk
 refine br_etn h (by first | rfl | exact dect | exact (congrArg not dect) | (simp; done) | (simp [beqI]; done) | (simp; omega)) (fun c23 h => ?_) (fun c23 h => ?_)
 ·cases h; exact hk
 refine call_h N h (fun t3 e24 h => ?_)
 refine call_h N h (fun t4 e25 h => ?_)
 refine br_ite h rfl (fun c26 h => ?_) (fun c26 h => ?_)
 ·cases h; exact hk
 refine br_etn h rfl (fun c27 h => ?_) (fun c27 h => ?_)
 ·cases h; exact hk
 refine call_h N h (fun t5 e28 h => ?_)
 refine call_h N h (fun t6 e29 h => ?_)
 refine br_etn h (congrArg not dect) (fun c30 h => ?_) (fun c30 h => ?_)
 ·cases h; exact hk
 refine br_etn h (by first | rfl | exact dect | exact (congrArg not dect) | (simp; done) | (simp [beqI]; done) | (simp; omega)) (fun c31 h => ?_) (fun c31 h => ?_)
 ·cases h; exact hk
 refine call_h N h (fun t7 e32 h => ?_)
 refine br_ite h rfl (fun c33 h => ?_) (fun c33 h => ?_)
 ·cases h; exact hk
 refine br_itn h rfl (fun c34 h => ?_) (fun c34 h => ?_)
 ·cases h; exact hk
 cases h; exact hk
end Go.Proofs.YtlpgpckggnimhaaDoor.PFnExactProgRead