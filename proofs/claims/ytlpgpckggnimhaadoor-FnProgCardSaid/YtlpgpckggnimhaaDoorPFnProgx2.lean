/- The machine's texts of FnProg (links). Conditions: none. -/
import Derived.Test.YtlpgpckggnimhaaDoorPFnProgx1
set_option linter.unusedVariables false
set_option linter.unusedSimpArgs false
set_option maxRecDepth 100000
set_option maxHeartbeats 4000000
namespace Go.Proofs.YtlpgpckggnimhaaDoor.PFnProg
open Go.RowKit Go.Proofs.YtlpgpckggnimhaaDoorW.PrintWords Go.Proofs.YtlpgpckggnimhaaDoorW.PrintLast Go.Proofs.YtlpgpckggnimhaaDoorW.PrintMore
open Go Go.Proofs Am
noncomputable def C_91 : Ctr tau Unit := ctr0
theorem okC_91 : CtrOk Tryd.prog TT pnT C_91 := ctr0_ok
theorem mC_91 : CtrMono C_91 := ctr0_mono
theorem mc_91 (args : List (AV tau)) (m : Mem tau) (k k' : AV tau → Mem tau → Option Unit) (hk : ∀ av m, k av m = some () → k' av m = some ()) (h : c_91 args m k = some ()) : c_91 args m k' = some () := by
 unfold c_91 at h ⊢
 split at h
 · repeat' first | exact callX_mono (fun _ h => hk _ _ h) h | refine bO_mono (fun _ h => ?_) h
 · cases h
theorem okc_91 (args : List (AV tau)) (m : Mem tau) (κ : AV tau → Mem tau → Option Unit) (hh : c_91 args m κ = some ()) : ∃ av m1, κ av m1 = some () ∧ ToldA Tryd.prog TT (pnT 91) 91 args m av m1 := by
 obtain ⟨bx_, rw_⟩ := m
 unfold c_91 at hh
 simp only at hh
 split at hh
 case h_2 => cases hh
 rename_i b0 b1
 obtain ⟨a0, hx0, hh0⟩ := bO_some hh
 obtain ⟨a1, hx1, hh1⟩ := bO_some hh0
 have ex0 := asS_some hx0
 have ex1 := asS_some hx1
 subst ex0 ex1
 obtain ⟨N, t, h, hκ⟩ := callX_some hh1
 replace h : strings_TrimPrefix.f N a0 a1 = some t := h
 refine ⟨_, _, hκ, ?_⟩
 cases h
 exact told_two ⟨Tryd.f91, by kernel_rfl, by kernel_rfl, by kernel_rfl⟩ (fun _ _ _ => .str _) (fun w S _ => (Any.strings_TrimPrefix Tryd.lays101 a0 a1 w).mono fun e w' ⟨he, hw⟩ => ⟨he, hw ▸ .refl _ _⟩)
noncomputable def C_52 : Ctr tau Unit := ctrS 91 c_91 C_91
theorem okC_52 : CtrOk Tryd.prog TT pnT C_52 := ctrS_ok okC_91 okc_91
theorem mC_52 : CtrMono C_52 := ctrS_mono mC_91 mc_91
theorem mc_52 (args : List (AV tau)) (m : Mem tau) (k k' : AV tau → Mem tau → Option Unit) (hk : ∀ av m, k av m = some () → k' av m = some ()) (h : c_52 args m k = some ()) : c_52 args m k' = some () := by
 unfold c_52 at h ⊢
 split at h
 · repeat' first | exact callX_mono (fun _ h => hk _ _ h) h | refine bO_mono (fun _ h => ?_) h
 · cases h
theorem okc_52 (args : List (AV tau)) (m : Mem tau) (κ : AV tau → Mem tau → Option Unit) (hh : c_52 args m κ = some ()) : ∃ av m1, κ av m1 = some () ∧ ToldA Tryd.prog TT (pnT 52) 52 args m av m1 := by
 obtain ⟨bx_, rw_⟩ := m
 unfold c_52 at hh
 simp only at hh
 split at hh
 case h_2 => cases hh
 rename_i b0 b1
 obtain ⟨a0, hx0, hh0⟩ := bO_some hh
 obtain ⟨a1, hx1, hh1⟩ := bO_some hh0
 have ex0 := asS_some hx0
 have ex1 := asS_some hx1
 subst ex0 ex1
 obtain ⟨N, t, h, hκ⟩ := callX_some hh1
 replace h : strings_Split.f N a0 a1 = some t := h
 refine ⟨_, _, hκ, ?_⟩
 unfold strings_Split.f at h
 split at h
 case isFalse => cases h
 rename_i hb
 cases h
 have hl : (splitW a0 a1).length = Lib.countB a0 a1 + 1 := Lib.splitB_all a1 hb.2 0 _ a0 rfl
 have hle := Lib.countB_le a1 hb.2 a0.size a0 (Nat.le_refl _)
 exact told_split (T := TT) (P := Tryd.prog) (e := 9) (xs := (splitW a0 a1 : List ByteArray)) (ys := splitW a0 a1) (k := Lib.countB a0 a1 + 1) ⟨Tryd.f52, by kernel_rfl, by kernel_rfl, by kernel_rfl⟩ rfl rfl (fun j x y hx hy => by
   have := hx.symm.trans hy
   cases this; rfl) hl (by
   have := hb.1
   simp only [maxLen]; omega) (fun w S hg => by
   obtain ⟨⟨_, _, m, hm⟩, _⟩ := hg
   exact Any.strings_Split { Tryd.laysM146 with } Tryd.laysM146.i9 a0 a1 m w hb.1 hm hb.2)
noncomputable def C_59 : Ctr tau Unit := ctrS 52 c_52 C_52
theorem okC_59 : CtrOk Tryd.prog TT pnT C_59 := ctrS_ok okC_52 okc_52
theorem mC_59 : CtrMono C_59 := ctrS_mono mC_52 mc_52
theorem mc_59 (args : List (AV tau)) (m : Mem tau) (k k' : AV tau → Mem tau → Option Unit) (hk : ∀ av m, k av m = some () → k' av m = some ()) (h : c_59 args m k = some ()) : c_59 args m k' = some () := by
 unfold c_59 at h ⊢
 split at h
 · repeat' first | exact callX_mono (fun _ h => hk _ _ h) h | refine bO_mono (fun _ h => ?_) h
 · cases h
theorem okc_59 (args : List (AV tau)) (m : Mem tau) (κ : AV tau → Mem tau → Option Unit) (hh : c_59 args m κ = some ()) : ∃ av m1, κ av m1 = some () ∧ ToldA Tryd.prog TT (pnT 59) 59 args m av m1 := by
 obtain ⟨bx_, rw_⟩ := m
 unfold c_59 at hh
 simp only at hh
 split at hh
 case h_2 => cases hh
 rename_i b0 b1 r0
 obtain ⟨u0, hx0, hh0⟩ := bO_some hh
 obtain ⟨l0, hx1, hh1⟩ := bO_some hh0
 obtain ⟨a1, hx2, hh2⟩ := bO_some hh1
 have ex0 := asOwn_some hx0
 have ex1 := asRow_some hx1
 have ex2 := asS_some hx2
 subst ex0 ex1 ex2
 obtain ⟨N, t, h, hκ⟩ := callX_some hh2
 replace h : strings_Join.f N l0 a1 = some t := h
 refine ⟨_, _, hκ, ?_⟩
 unfold strings_Join.f at h
 split at h
 case isFalse => cases h
 rename_i hb
 cases h
 exact told_join (T := TT) (P := Tryd.prog) (e := 9) (xs := (l0 : List ByteArray)) (ys := l0) ⟨Tryd.f59, by kernel_rfl, by kernel_rfl, by kernel_rfl⟩ rfl rfl (fun j x y hx hy => by
   have := hx.symm.trans hy
   cases this; rfl) (fun hz w A c => by
   have hz' : l0 = [] := List.eq_nil_of_length_eq_zero hz
   subst hz'
   exact Any.strings_Join_none Tryd.lays156 Tryd.Builder_Extra_156 A c a1 w) (fun w g o c hc hg hle => Any.strings_Join Tryd.lays156 Tryd.Builder_Extra_156 g o c l0 a1 w hc hg hb.1 hle hb.2)
noncomputable def C_58 : Ctr tau Unit := ctrS 59 c_59 C_59
theorem okC_58 : CtrOk Tryd.prog TT pnT C_58 := ctrS_ok okC_59 okc_59
theorem mC_58 : CtrMono C_58 := ctrS_mono mC_59 mc_59
theorem mc_58 (args : List (AV tau)) (m : Mem tau) (k k' : AV tau → Mem tau → Option Unit) (hk : ∀ av m, k av m = some () → k' av m = some ()) (h : c_58 args m k = some ()) : c_58 args m k' = some () := by
 unfold c_58 at h ⊢
 split at h
 · repeat' first | exact callX_mono (fun _ h => hk _ _ h) h | refine bO_mono (fun _ h => ?_) h
 · cases h
theorem okc_58 (args : List (AV tau)) (m : Mem tau) (κ : AV tau → Mem tau → Option Unit) (hh : c_58 args m κ = some ()) : ∃ av m1, κ av m1 = some () ∧ ToldA Tryd.prog TT (pnT 58) 58 args m av m1 := by
 obtain ⟨bx_, rw_⟩ := m
 unfold c_58 at hh
 simp only at hh
 split at hh
 case h_2 => cases hh
 rename_i b0
 obtain ⟨a0, hx0, hh0⟩ := bO_some hh
 have ex0 := asI_some hx0
 subst ex0
 obtain ⟨N, t, h, hκ⟩ := callX_some hh0
 replace h : strconv_Itoa.f N a0 = some t := h
 refine ⟨_, _, hκ, ?_⟩
 unfold strconv_Itoa.f at h
 split at h
 case isFalse => cases h
 rename_i hb
 cases h
 exact told_num ⟨Tryd.f58, by kernel_rfl, by kernel_rfl, by kernel_rfl⟩ (fun w S hg => (Any.strconv_Itoa Tryd.laysM171 a0 hb.1 hb.2 w hg.2.2.2.2).mono fun e w' ⟨he, d, os, hw⟩ => ⟨he, hw ▸ below_grown w d os⟩)
noncomputable def C_63 : Ctr tau Unit := ctrS 58 c_58 C_58
theorem okC_63 : CtrOk Tryd.prog TT pnT C_63 := ctrS_ok okC_58 okc_58
theorem mC_63 : CtrMono C_63 := ctrS_mono mC_58 mc_58
theorem mc_63 (args : List (AV tau)) (m : Mem tau) (k k' : AV tau → Mem tau → Option Unit) (hk : ∀ av m, k av m = some () → k' av m = some ()) (h : c_63 args m k = some ()) : c_63 args m k' = some () := by
 unfold c_63 at h ⊢
 split at h
 · repeat' first | exact callX_mono (fun _ h => hk _ _ h) h | refine bO_mono (fun _ h => ?_) h
 · cases h
theorem okc_63 (args : List (AV tau)) (m : Mem tau) (κ : AV tau → Mem tau → Option Unit) (hh : c_63 args m κ = some ()) : ∃ av m1, κ av m1 = some () ∧ ToldA Tryd.prog TT (pnT 63) 63 args m av m1 := by
 obtain ⟨bx_, rw_⟩ := m
 unfold c_63 at hh
 simp only at hh
 split at hh
 case h_2 => cases hh
 rename_i b0
 obtain ⟨a0, hx0, hh0⟩ := bO_some hh
 have ex0 := asI_some hx0
 subst ex0
 obtain ⟨N, t, h, hκ⟩ := callX_some hh0
 replace h : spec_l15Dec.f N a0 = some t := h
 refine ⟨_, _, hκ, ?_⟩
 exact told_num ⟨Tryd.f63, by kernel_rfl, by kernel_rfl, by kernel_rfl⟩ (fun w S _ => spec_l15Dec.calls N a0 t w h)
noncomputable def C_65 : Ctr tau Unit := ctrS 63 c_63 C_63
noncomputable def D_65 : Drw tau := drawA E_65 C_65
theorem okC_65 : CtrOk Tryd.prog TT pnT C_65 := ctrS_ok okC_63 okc_63
theorem mC_65 : CtrMono C_65 := ctrS_mono mC_63 mc_63
theorem mD_65 : DrMono D_65 := drawA_mono mC_65
noncomputable def B_65 : Code := Tryd.f65.body.getD .skip
theorem mc_65 (args : List (AV tau)) (m : Mem tau) (k k' : AV tau → Mem tau → Option Unit) (hk : ∀ av m, k av m = some () → k' av m = some ()) (h : c_65 args m k = some ()) : c_65 args m k' = some () := by
 unfold c_65 at h ⊢
 split at h
 · repeat' first | exact callX_mono (fun _ h => hk _ _ h) h | refine bO_mono (fun _ h => ?_) h
 · cases h
theorem w_65 (a0 : Int) (k : AV tau → Mem tau → Option Unit) : fnA E_65 C_65 D_65 Tryd.f65 B_65 [.int .i64 a0] ⟨[], []⟩ k = (brA (decide (a0 ≥ (-(1000000 : Int)))) (k (.bool (decide (a0 ≤ (1000000 : Int)))) ⟨[], []⟩) (k (.bool false) ⟨[], []⟩) : Option Unit) := by kernel_rfl
theorem okc_65 (args : List (AV tau)) (m : Mem tau) (κ : AV tau → Mem tau → Option Unit) (hh : c_65 args m κ = some ()) : ∃ av m1, κ av m1 = some () ∧ ToldA Tryd.prog TT (pnT 65) 65 args m av m1 := by
 obtain ⟨bx_, rw_⟩ := m
 unfold c_65 at hh
 simp only at hh
 split at hh
 case h_2 => cases hh
 rename_i b0
 obtain ⟨a0, hx0, hh0⟩ := bO_some hh
 have ex0 := asI_some hx0
 subst ex0
 obtain ⟨N, t, h, hκ⟩ := callX_some hh0
 refine ⟨_, _, hκ, told_of_run pq okC_65 (fun _ _ _ => drawA_ok pq okC_65 hmix) (E := E_65) (fn := Tryd.f65) (body := B_65) (by kernel_rfl) (by kernel_rfl) (by kernel_rfl) (by rfl) (by exact Nat.le_of_ble_eq_true rfl) (fun k hk => ?_)⟩
 refine (w_65 a0 k).trans ?_
 replace h : spec_l1Num.f a0 = some t := h
 unfold spec_l1Num.f at h
 refine br_eti h rfl (fun c2 h => ?_) (fun c2 h => ?_)
 ·cases h; exact hk
 cases h; exact hk
noncomputable def C_95 : Ctr tau Unit := ctrS 65 c_65 C_65
noncomputable def D_95 : Drw tau := drawA E_95 C_95
theorem okC_95 : CtrOk Tryd.prog TT pnT C_95 := ctrS_ok okC_65 okc_65
theorem mC_95 : CtrMono C_95 := ctrS_mono mC_65 mc_65
theorem mD_95 : DrMono D_95 := drawA_mono mC_95
noncomputable def B_95 : Code := Tryd.f95.body.getD .skip
theorem mc_95 (args : List (AV tau)) (m : Mem tau) (k k' : AV tau → Mem tau → Option Unit) (hk : ∀ av m, k av m = some () → k' av m = some ()) (h : c_95 args m k = some ()) : c_95 args m k' = some () := by
 unfold c_95 at h ⊢
 split at h
 · repeat' first | exact callX_mono (fun _ h => hk _ _ h) h | refine bO_mono (fun _ h => ?_) h
 · cases h
theorem w_95 (a0 : Int) (k : AV tau → Mem tau → Option Unit) : fnA E_95 C_95 D_95 Tryd.f95 B_95 [.int .i64 a0] ⟨[], []⟩ k = (brA (decide (a0 ≥ (0 : Int))) (k (.bool (decide (a0 < (4 : Int)))) ⟨[], []⟩) (k (.bool false) ⟨[], []⟩) : Option Unit) := by kernel_rfl
theorem okc_95 (args : List (AV tau)) (m : Mem tau) (κ : AV tau → Mem tau → Option Unit) (hh : c_95 args m κ = some ()) : ∃ av m1, κ av m1 = some () ∧ ToldA Tryd.prog TT (pnT 95) 95 args m av m1 := by
 obtain ⟨bx_, rw_⟩ := m
 unfold c_95 at hh
 simp only at hh
 split at hh
 case h_2 => cases hh
 rename_i b0
 obtain ⟨a0, hx0, hh0⟩ := bO_some hh
 have ex0 := asI_some hx0
 subst ex0
 obtain ⟨N, t, h, hκ⟩ := callX_some hh0
 refine ⟨_, _, hκ, told_of_run pq okC_95 (fun _ _ _ => drawA_ok pq okC_95 hmix) (E := E_95) (fn := Tryd.f95) (body := B_95) (by kernel_rfl) (by kernel_rfl) (by kernel_rfl) (by rfl) (by exact Nat.le_of_ble_eq_true rfl) (fun k hk => ?_)⟩
 refine (w_95 a0 k).trans ?_
 replace h : spec_l2Reg.f a0 = some t := h
 unfold spec_l2Reg.f at h
 refine br_eti h rfl (fun c2 h => ?_) (fun c2 h => ?_)
 ·cases h; exact hk
 cases h; exact hk
noncomputable def C_96 : Ctr tau Unit := ctrS 95 c_95 C_95
noncomputable def D_96 : Drw tau := drawA E_96 C_96
theorem okC_96 : CtrOk Tryd.prog TT pnT C_96 := ctrS_ok okC_95 okc_95
theorem mC_96 : CtrMono C_96 := ctrS_mono mC_95 mc_95
theorem mD_96 : DrMono D_96 := drawA_mono mC_96
noncomputable def B_96 : Code := Tryd.f96.body.getD .skip
theorem mc_96 (args : List (AV tau)) (m : Mem tau) (k k' : AV tau → Mem tau → Option Unit) (hk : ∀ av m, k av m = some () → k' av m = some ()) (h : c_96 args m k = some ()) : c_96 args m k' = some () := by
 unfold c_96 at h ⊢
 split at h
 · repeat' first | exact callX_mono (fun _ h => hk _ _ h) h | refine bO_mono (fun _ h => ?_) h
 · cases h
theorem w_96 (a0 : Int) (k : AV tau → Mem tau → Option Unit) : fnA E_96 C_96 D_96 Tryd.f96 B_96 [.int .i64 a0] ⟨[], []⟩ k = (brA (decide (a0 ≥ (0 : Int))) (k (.bool (decide (a0 < (4 : Int)))) ⟨[], []⟩) (k (.bool false) ⟨[], []⟩) : Option Unit) := by kernel_rfl
theorem okc_96 (args : List (AV tau)) (m : Mem tau) (κ : AV tau → Mem tau → Option Unit) (hh : c_96 args m κ = some ()) : ∃ av m1, κ av m1 = some () ∧ ToldA Tryd.prog TT (pnT 96) 96 args m av m1 := by
 obtain ⟨bx_, rw_⟩ := m
 unfold c_96 at hh
 simp only at hh
 split at hh
 case h_2 => cases hh
 rename_i b0
 obtain ⟨a0, hx0, hh0⟩ := bO_some hh
 have ex0 := asI_some hx0
 subst ex0
 obtain ⟨N, t, h, hκ⟩ := callX_some hh0
 refine ⟨_, _, hκ, told_of_run pq okC_96 (fun _ _ _ => drawA_ok pq okC_96 hmix) (E := E_96) (fn := Tryd.f96) (body := B_96) (by kernel_rfl) (by kernel_rfl) (by kernel_rfl) (by rfl) (by exact Nat.le_of_ble_eq_true rfl) (fun k hk => ?_)⟩
 refine (w_96 a0 k).trans ?_
 replace h : spec_l2Box.f a0 = some t := h
 unfold spec_l2Box.f at h
 refine br_eti h rfl (fun c2 h => ?_) (fun c2 h => ?_)
 ·cases h; exact hk
 cases h; exact hk
noncomputable def C_75 : Ctr tau Unit := ctrS 96 c_96 C_96
noncomputable def D_75 : Drw tau := drawA E_75 C_75
theorem okC_75 : CtrOk Tryd.prog TT pnT C_75 := ctrS_ok okC_96 okc_96
theorem mC_75 : CtrMono C_75 := ctrS_mono mC_96 mc_96
theorem mD_75 : DrMono D_75 := drawA_mono mC_75
noncomputable def B_75 : Code := Tryd.f75.body.getD .skip
theorem mc_75 (args : List (AV tau)) (m : Mem tau) (k k' : AV tau → Mem tau → Option Unit) (hk : ∀ av m, k av m = some () → k' av m = some ()) (h : c_75 args m k = some ()) : c_75 args m k' = some () := by
 unfold c_75 at h ⊢
 split at h
 · repeat' first | exact callX_mono (fun _ h => hk _ _ h) h | refine bO_mono (fun _ h => ?_) h
 · cases h
theorem w_75 (a0_0 : Int) (a0_1 : Int) (a0_2 : Int) (a0_3 : Int) (k : AV tau → Mem tau → Option Unit) : fnA E_75 C_75 D_75 Tryd.f75 B_75 [.agg [.int .i64 a0_0, .int .i64 a0_1, .int .i64 a0_2, .int .i64 a0_3]] ⟨[], []⟩ k = (brA (decide (a0_0 = (1 : Int))) (callX (fun n => spec_l2Reg.f a0_1) fun t0 => brA t0 (callX (fun n => spec_l2Box.f a0_2) fun t1 => brA t1 (k (.bool (decide (a0_3 = (0 : Int)))) ⟨[], []⟩) (k (.bool false) ⟨[], []⟩)) (k (.bool false) ⟨[], []⟩)) (brA (decide (a0_0 = (2 : Int))) (callX (fun n => spec_l2Box.f a0_1) fun t2 => brA t2 (callX (fun n => spec_l2Reg.f a0_2) fun t3 => brA t3 (k (.bool (decide (a0_3 = (0 : Int)))) ⟨[], []⟩) (k (.bool false) ⟨[], []⟩)) (k (.bool false) ⟨[], []⟩)) (brA (decide (a0_0 = (3 : Int))) (callX (fun n => spec_l2Reg.f a0_1) fun t4 => brA t4 (brA (decide (a0_2 = (0 : Int))) (callX (fun n => spec_l1Num.f a0_3) fun t5 => k (.bool t5) ⟨[], []⟩) (k (.bool false) ⟨[], []⟩)) (k (.bool false) ⟨[], []⟩)) (brA (decide (a0_0 = (4 : Int))) (brA (decide (a0_0 = (4 : Int))) (callX (fun n => spec_l2Reg.f a0_1) fun t6 => brA t6 (callX (fun n => spec_l2Reg.f a0_2) fun t7 => brA t7 (k (.bool (decide (a0_3 = (0 : Int)))) ⟨[], []⟩) (k (.bool false) ⟨[], []⟩)) (k (.bool false) ⟨[], []⟩)) (brA (decide (a0_0 = (6 : Int))) (callX (fun n => spec_l2Reg.f a0_1) fun t8 => brA t8 (callX (fun n => spec_l2Reg.f a0_2) fun t9 => brA t9 (brA (decide (a0_3 ≥ (1 : Int))) (k (.bool (decide (a0_3 ≤ (10 : Int)))) ⟨[], []⟩) (k (.bool false) ⟨[], []⟩)) (k (.bool false) ⟨[], []⟩)) (k (.bool false) ⟨[], []⟩)) (brA (decide (a0_0 = (7 : Int))) (brA (decide (a0_1 = (0 : Int))) (brA (decide (a0_2 = (0 : Int))) (k (.bool (decide (a0_3 = (0 : Int)))) ⟨[], []⟩) (k (.bool false) ⟨[], []⟩)) (k (.bool false) ⟨[], []⟩)) (k (.bool false) ⟨[], []⟩)))) (brA (decide (a0_0 = (5 : Int))) (callX (fun n => spec_l2Reg.f a0_1) fun t10 => brA t10 (callX (fun n => spec_l2Reg.f a0_2) fun t11 => brA t11 (k (.bool (decide (a0_3 = (0 : Int)))) ⟨[], []⟩) (k (.bool false) ⟨[], []⟩)) (k (.bool false) ⟨[], []⟩)) (brA (decide (a0_0 = (6 : Int))) (callX (fun n => spec_l2Reg.f a0_1) fun t12 => brA t12 (callX (fun n => spec_l2Reg.f a0_2) fun t13 => brA t13 (brA (decide (a0_3 ≥ (1 : Int))) (k (.bool (decide (a0_3 ≤ (10 : Int)))) ⟨[], []⟩) (k (.bool false) ⟨[], []⟩)) (k (.bool false) ⟨[], []⟩)) (k (.bool false) ⟨[], []⟩)) (brA (decide (a0_0 = (7 : Int))) (brA (decide (a0_1 = (0 : Int))) (brA (decide (a0_2 = (0 : Int))) (k (.bool (decide (a0_3 = (0 : Int)))) ⟨[], []⟩) (k (.bool false) ⟨[], []⟩)) (k (.bool false) ⟨[], []⟩)) (k (.bool false) ⟨[], []⟩))))))) : Option Unit) := by kernel_rfl
theorem okc_75 (args : List (AV tau)) (m : Mem tau) (κ : AV tau → Mem tau → Option Unit) (hh : c_75 args m κ = some ()) : ∃ av m1, κ av m1 = some () ∧ ToldA Tryd.prog TT (pnT 75) 75 args m av m1 := by
 obtain ⟨bx_, rw_⟩ := m
 unfold c_75 at hh
 simp only at hh
 split at hh
 case h_2 => cases hh
 rename_i b0 b1 b2 b3
 obtain ⟨a0_0, hx0, hh0⟩ := bO_some hh
 obtain ⟨a0_1, hx1, hh1⟩ := bO_some hh0
 obtain ⟨a0_2, hx2, hh2⟩ := bO_some hh1
 obtain ⟨a0_3, hx3, hh3⟩ := bO_some hh2
 have ex0 := asI_some hx0
 have ex1 := asI_some hx1
 have ex2 := asI_some hx2
 have ex3 := asI_some hx3
 subst ex0 ex1 ex2 ex3
 obtain ⟨N, t, h, hκ⟩ := callX_some hh3
 refine ⟨_, _, hκ, told_of_run pq okC_75 (fun _ _ _ => drawA_ok pq okC_75 hmix) (E := E_75) (fn := Tryd.f75) (body := B_75) (by kernel_rfl) (by kernel_rfl) (by kernel_rfl) (by rfl) (by exact Nat.le_of_ble_eq_true rfl) (fun k hk => ?_)⟩
 refine (w_75 a0_0 a0_1 a0_2 a0_3 k).trans ?_
 replace h : spec_l2Ins.f N a0_0 a0_1 a0_2 a0_3 = some t := h
 unfold spec_l2Ins.f at h
 refine br_ite h rfl (fun c45 h => ?_) (fun c45 h => ?_)
 ·refine call_h 0 h (fun t0 e46 h => ?_)
  refine br_eti h dect (fun c47 h => ?_) (fun c47 h => ?_)
  ·cases h; exact hk
  refine call_h 0 h (fun t1 e48 h => ?_)
  refine br_eti h dect (fun c49 h => ?_) (fun c49 h => ?_)
  ·cases h; exact hk
  cases h; exact hk
 refine br_ite h rfl (fun c50 h => ?_) (fun c50 h => ?_)
 ·refine call_h 0 h (fun t2 e51 h => ?_)
  refine br_eti h dect (fun c52 h => ?_) (fun c52 h => ?_)
  ·cases h; exact hk
  refine call_h 0 h (fun t3 e53 h => ?_)
  refine br_eti h dect (fun c54 h => ?_) (fun c54 h => ?_)
  ·cases h; exact hk
  cases h; exact hk
 refine br_ite h rfl (fun c55 h => ?_) (fun c55 h => ?_)
 ·refine call_h 0 h (fun t4 e56 h => ?_)
  refine br_eti h dect (fun c57 h => ?_) (fun c57 h => ?_)
  ·cases h; exact hk
  refine br_eti h rfl (fun c58 h => ?_) (fun c58 h => ?_)
  ·cases h; exact hk
  refine call_h 0 h (fun t5 e59 h => ?_)
  cases h; exact hk
 refine br_ite h rfl (fun c60 h => ?_) (fun c60 h => ?_)
 ·rcases N with _ | N
  · cases h
  first | rw [spec_l2Ins.j0] at h | simp only [spec_l2Ins.j0] at h | (unfold spec_l2Ins.j0 at h; dsimp only at h)
  refine br_ite h (by first | rfl | exact dect | exact (congrArg not dect) | (simp; done) | (simp [beqI]; done) | (simp; omega)) (fun c61 h => ?_) (fun c61 h => ?_)
  ·refine call_h 0 h (fun t6 e62 h => ?_)
   refine br_eti h dect (fun c63 h => ?_) (fun c63 h => ?_)
   ·cases h; exact hk
   refine call_h 0 h (fun t7 e64 h => ?_)
   refine br_eti h dect (fun c65 h => ?_) (fun c65 h => ?_)
   ·cases h; exact hk
   cases h; exact hk
  refine br_eti h rfl (fun c66 h => ?_) (fun c66 h => ?_)
  ·refine br_eti h rfl (fun c67 h => ?_) (fun c67 h => ?_)
   ·cases h; exact hk
   refine br_eti h rfl (fun c68 h => ?_) (fun c68 h => ?_)
   ·cases h; exact hk
   refine br_eti h rfl (fun c69 h => ?_) (fun c69 h => ?_)
   ·cases h; exact hk
   cases h; exact hk
  refine call_h 0 h (fun t8 e70 h => ?_)
  refine br_eti h dect (fun c71 h => ?_) (fun c71 h => ?_)
  ·cases h; exact hk
  refine call_h 0 h (fun t9 e72 h => ?_)
  refine br_eti h dect (fun c73 h => ?_) (fun c73 h => ?_)
  ·cases h; exact hk
  refine br_eti h rfl (fun c74 h => ?_) (fun c74 h => ?_)
  ·cases h; exact hk
  cases h; exact hk
 rcases N with _ | N
 · cases h
 first | rw [spec_l2Ins.j0] at h | simp only [spec_l2Ins.j0] at h | (unfold spec_l2Ins.j0 at h; dsimp only at h)
 refine br_ite h (by first | rfl | exact dect | exact (congrArg not dect) | (simp; done) | (simp [beqI]; done) | (simp; omega)) (fun c75 h => ?_) (fun c75 h => ?_)
 ·refine call_h 0 h (fun t10 e76 h => ?_)
  refine br_eti h dect (fun c77 h => ?_) (fun c77 h => ?_)
  ·cases h; exact hk
  refine call_h 0 h (fun t11 e78 h => ?_)
  refine br_eti h dect (fun c79 h => ?_) (fun c79 h => ?_)
  ·cases h; exact hk
  cases h; exact hk
 refine br_eti h rfl (fun c80 h => ?_) (fun c80 h => ?_)
 ·refine br_eti h rfl (fun c81 h => ?_) (fun c81 h => ?_)
  ·cases h; exact hk
  refine br_eti h rfl (fun c82 h => ?_) (fun c82 h => ?_)
  ·cases h; exact hk
  refine br_eti h rfl (fun c83 h => ?_) (fun c83 h => ?_)
  ·cases h; exact hk
  cases h; exact hk
 refine call_h 0 h (fun t12 e84 h => ?_)
 refine br_eti h dect (fun c85 h => ?_) (fun c85 h => ?_)
 ·cases h; exact hk
 refine call_h 0 h (fun t13 e86 h => ?_)
 refine br_eti h dect (fun c87 h => ?_) (fun c87 h => ?_)
 ·cases h; exact hk
 refine br_eti h rfl (fun c88 h => ?_) (fun c88 h => ?_)
 ·cases h; exact hk
 cases h; exact hk
noncomputable def C_30 : Ctr tau Unit := ctrS 75 c_75 C_75
noncomputable def D_30 : Drw tau := drawA E_30 C_30
theorem okC_30 : CtrOk Tryd.prog TT pnT C_30 := ctrS_ok okC_75 okc_75
theorem mC_30 : CtrMono C_30 := ctrS_mono mC_75 mc_75
theorem mD_30 : DrMono D_30 := drawA_mono mC_30
noncomputable def B_30 : Code := Tryd.f30.body.getD .skip
theorem mc_30 (args : List (AV tau)) (m : Mem tau) (k k' : AV tau → Mem tau → Option Unit) (hk : ∀ av m, k av m = some () → k' av m = some ()) (h : c_30 args m k = some ()) : c_30 args m k' = some () := by
 unfold c_30 at h ⊢
 split at h
 · repeat' first | exact callX_mono (fun _ h => hk _ _ h) h | refine bO_mono (fun _ h => ?_) h
 · cases h
noncomputable def K_30_0 (k : AV tau → Mem tau → Option Unit) : Kon tau := (kBlock 0 (kS E_30 C_30 D_30 (codeP B_30 [1, 1, 1]) (kEnd E_30 Tryd.f30 k)))
def st_30_0 (x0 : (List S60)) (x1 : Int) : St tau := ⟨tmL 19 0 [(0, .sl 60 x0), (3, .int .i64 x1)], ⟨[], []⟩⟩
noncomputable def LP_30_0 (k : AV tau → Mem tau → Option Unit) (x0 : (List S60)) (x1 : Int) : Option Unit := loopA E_30 (codeA E_30 C_30 D_30 (codeP B_30 [1, 1, 0, 1, 0, 0])) (codeP B_30 [1, 1, 0, 1, 0, 0]) (K_30_0 k) (st_30_0 x0 x1)
theorem w_30_0 (k : AV tau → Mem tau → Option Unit) (x0 : (List S60)) (x1 : Int) : codeA E_30 C_30 D_30 (codeP B_30 [1, 1, 0, 1, 0, 0]) (kL E_30 C_30 D_30 (codeP B_30 [1, 1, 0, 1, 0, 0]) (K_30_0 k)) (st_30_0 x0 x1) = (brA (decide (x1 < ((x0.length : Nat) : Int))) (brA (decide ((0 : Int) ≤ x1)) (brA (decide (x1 < ((x0.length : Nat) : Int))) (callX (fun n => spec_l2Ins.f n ((rd_T60 x0 x1).f0) ((rd_T60 x0 x1).f1) ((rd_T60 x0 x1).f2) ((rd_T60 x0 x1).f3)) fun t0 => brA (!t0) (k (.bool false) ⟨[], []⟩) (LP_30_0 k x0 (wrap64 (x1 + (1 : Int))))) (none)) (none)) (k (.bool true) ⟨[], []⟩) : Option Unit) := by
 simp only [← wrapA_i64]
 kernel_rfl
theorem w_30 (l0 : List S60) (k : AV tau → Mem tau → Option Unit) : fnA E_30 C_30 D_30 Tryd.f30 B_30 [.sl 60 l0] ⟨[], []⟩ k = (brA (decide (((l0.length : Nat) : Int) > (10 : Int))) (k (.bool false) ⟨[], []⟩) (LP_30_0 k l0 (0 : Int)) : Option Unit) := by kernel_rfl
def S_30_0 (N : Nat) : Prop := ∀ (k : AV tau → Mem tau → Option Unit) (x0 : (List S60)) (x1 : Int) (r : Bool), spec_ProgOk.l0 N (x0) (x1) = some r → k (.bool (r)) ⟨[], []⟩ = some () → LP_30_0 k x0 x1 = some ()
theorem L_30 (N : Nat) : S_30_0 N := by
 induction N using Nat.strongRecOn with | _ N0 ih =>
 skip
 intro k x0 x1 r h hk
 rcases N0 with _ | N
 · cases h
 first | rw [spec_ProgOk.l0] at h | simp only [spec_ProgOk.l0] at h | (unfold spec_ProgOk.l0 at h; dsimp only at h)
 refine loop_fold mC_30 mD_30 ?_
 refine (w_30_0 k x0 x1).trans ?_
 refine br_eti h rfl (fun c11 h => ?_) (fun c11 h => ?_)
 ·cases h; exact hk
 refine br_g h rfl (fun c12 h => ?_)
 refine br_t (by first | (simp [c11]; done) | (simp; omega) | (simp only [List.length_append, List.length_cons, List.length_nil, List.length_take, List.length_drop] at c11 ⊢; simp; omega) | (simp only [List.length_append, List.length_cons, List.length_nil, List.length_take, List.length_drop] at c11; simp; omega) | (simp_all; done)) ?_
 refine call_h N h (fun t0 e13 h => ?_)
 refine br_etn h (congrArg not dect) (fun c14 h => ?_) (fun c14 h => ?_)
 ·cases h; exact hk
 exact (ih N (by omega)) _ _ _ _ h hk
theorem okc_30 (args : List (AV tau)) (m : Mem tau) (κ : AV tau → Mem tau → Option Unit) (hh : c_30 args m κ = some ()) : ∃ av m1, κ av m1 = some () ∧ ToldA Tryd.prog TT (pnT 30) 30 args m av m1 := by
 obtain ⟨bx_, rw_⟩ := m
 unfold c_30 at hh
 simp only at hh
 split at hh
 case h_2 => cases hh
 rename_i b0
 obtain ⟨l0, hx0, hh0⟩ := bO_some hh
 have ex0 := asSl_some hx0
 subst ex0
 obtain ⟨N, t, h, hκ⟩ := callX_some hh0
 refine ⟨_, _, hκ, told_of_run pq okC_30 (fun _ _ _ => drawA_ok pq okC_30 hmix) (E := E_30) (fn := Tryd.f30) (body := B_30) (by kernel_rfl) (by kernel_rfl) (by kernel_rfl) (by rfl) (by exact Nat.le_of_ble_eq_true rfl) (fun k hk => ?_)⟩
 refine (w_30 l0 k).trans ?_
 replace h : spec_ProgOk.f N l0 = some t := h
 unfold spec_ProgOk.f at h
 refine br_eti h rfl (fun c15 h => ?_) (fun c15 h => ?_)
 ·exact (L_30 N) _ _ _ _ h hk
 cases h; exact hk
noncomputable def C_64 : Ctr tau Unit := ctrS 30 c_30 C_30
noncomputable def D_64 : Drw tau := drawA E_64 C_64
theorem okC_64 : CtrOk Tryd.prog TT pnT C_64 := ctrS_ok okC_30 okc_30
theorem mC_64 : CtrMono C_64 := ctrS_mono mC_30 mc_30
theorem mD_64 : DrMono D_64 := drawA_mono mC_64
noncomputable def B_64 : Code := Tryd.f64.body.getD .skip
theorem mc_64 (args : List (AV tau)) (m : Mem tau) (k k' : AV tau → Mem tau → Option Unit) (hk : ∀ av m, k av m = some () → k' av m = some ()) (h : c_64 args m k = some ()) : c_64 args m k' = some () := by
 unfold c_64 at h ⊢
 split at h
 · repeat' first | exact callX_mono (fun _ h => hk _ _ h) h | refine bO_mono (fun _ h => ?_) h
 · cases h
theorem w_64 (a0 : Int) (a1 : Int) (a2 : Int) (k : AV tau → Mem tau → Option Unit) : fnA E_64 C_64 D_64 Tryd.f64 B_64 [.int .i64 a0, .int .i64 a1, .int .i64 a2] ⟨[], []⟩ k = (brA (decide (a0 ≥ a1)) (k (.bool (decide (a0 ≤ a2))) ⟨[], []⟩) (k (.bool false) ⟨[], []⟩) : Option Unit) := by kernel_rfl
theorem okc_64 (args : List (AV tau)) (m : Mem tau) (κ : AV tau → Mem tau → Option Unit) (hh : c_64 args m κ = some ()) : ∃ av m1, κ av m1 = some () ∧ ToldA Tryd.prog TT (pnT 64) 64 args m av m1 := by
 obtain ⟨bx_, rw_⟩ := m
 unfold c_64 at hh
 simp only at hh
 split at hh
 case h_2 => cases hh
 rename_i b0 b1 b2
 obtain ⟨a0, hx0, hh0⟩ := bO_some hh
 obtain ⟨a1, hx1, hh1⟩ := bO_some hh0
 obtain ⟨a2, hx2, hh2⟩ := bO_some hh1
 have ex0 := asI_some hx0
 have ex1 := asI_some hx1
 have ex2 := asI_some hx2
 subst ex0 ex1 ex2
 obtain ⟨N, t, h, hκ⟩ := callX_some hh2
 refine ⟨_, _, hκ, told_of_run pq okC_64 (fun _ _ _ => drawA_ok pq okC_64 hmix) (E := E_64) (fn := Tryd.f64) (body := B_64) (by kernel_rfl) (by kernel_rfl) (by kernel_rfl) (by rfl) (by exact Nat.le_of_ble_eq_true rfl) (fun k hk => ?_)⟩
 refine (w_64 a0 a1 a2 k).trans ?_
 replace h : impl_in.f a0 a1 a2 = some t := h
 unfold impl_in.f at h
 refine br_eti h rfl (fun c2 h => ?_) (fun c2 h => ?_)
 ·cases h; exact hk
 cases h; exact hk
noncomputable def C_93 : Ctr tau Unit := ctrS 64 c_64 C_64
noncomputable def D_93 : Drw tau := drawA E_93 C_93
theorem okC_93 : CtrOk Tryd.prog TT pnT C_93 := ctrS_ok okC_64 okc_64
theorem mC_93 : CtrMono C_93 := ctrS_mono mC_64 mc_64
theorem mD_93 : DrMono D_93 := drawA_mono mC_93
noncomputable def B_93 : Code := Tryd.f93.body.getD .skip
theorem mc_93 (args : List (AV tau)) (m : Mem tau) (k k' : AV tau → Mem tau → Option Unit) (hk : ∀ av m, k av m = some () → k' av m = some ()) (h : c_93 args m k = some ()) : c_93 args m k' = some () := by
 unfold c_93 at h ⊢
 split at h
 · repeat' first | exact callX_mono (fun _ h => hk _ _ h) h | refine bO_mono (fun _ h => ?_) h
 · cases h
theorem w_93 (a0 : Int) (k : AV tau → Mem tau → Option Unit) : fnA E_93 C_93 D_93 Tryd.f93 B_93 [.int .i64 a0] ⟨[], []⟩ k = (callX (fun n => impl_in.f a0 (0 : Int) (3 : Int)) fun t0 => k (.bool t0) ⟨[], []⟩ : Option Unit) := by kernel_rfl
theorem okc_93 (args : List (AV tau)) (m : Mem tau) (κ : AV tau → Mem tau → Option Unit) (hh : c_93 args m κ = some ()) : ∃ av m1, κ av m1 = some () ∧ ToldA Tryd.prog TT (pnT 93) 93 args m av m1 := by
 obtain ⟨bx_, rw_⟩ := m
 unfold c_93 at hh
 simp only at hh
 split at hh
 case h_2 => cases hh
 rename_i b0
 obtain ⟨a0, hx0, hh0⟩ := bO_some hh
 have ex0 := asI_some hx0
 subst ex0
 obtain ⟨N, t, h, hκ⟩ := callX_some hh0
 refine ⟨_, _, hκ, told_of_run pq okC_93 (fun _ _ _ => drawA_ok pq okC_93 hmix) (E := E_93) (fn := Tryd.f93) (body := B_93) (by kernel_rfl) (by kernel_rfl) (by kernel_rfl) (by rfl) (by exact Nat.le_of_ble_eq_true rfl) (fun k hk => ?_)⟩
 refine (w_93 a0 k).trans ?_
 replace h : impl_insOk_1.f a0 = some t := h
 unfold impl_insOk_1.f at h
 refine call_h 0 h (fun t0 e2 h => ?_)
 cases h; exact hk
noncomputable def C_94 : Ctr tau Unit := ctrS 93 c_93 C_93
noncomputable def D_94 : Drw tau := drawA E_94 C_94
theorem okC_94 : CtrOk Tryd.prog TT pnT C_94 := ctrS_ok okC_93 okc_93
theorem mC_94 : CtrMono C_94 := ctrS_mono mC_93 mc_93
theorem mD_94 : DrMono D_94 := drawA_mono mC_94
noncomputable def B_94 : Code := Tryd.f94.body.getD .skip
theorem mc_94 (args : List (AV tau)) (m : Mem tau) (k k' : AV tau → Mem tau → Option Unit) (hk : ∀ av m, k av m = some () → k' av m = some ()) (h : c_94 args m k = some ()) : c_94 args m k' = some () := by
 unfold c_94 at h ⊢
 split at h
 · repeat' first | exact callX_mono (fun _ h => hk _ _ h) h | refine bO_mono (fun _ h => ?_) h
 · cases h
theorem w_94 (a0 : Int) (k : AV tau → Mem tau → Option Unit) : fnA E_94 C_94 D_94 Tryd.f94 B_94 [.int .i64 a0] ⟨[], []⟩ k = (callX (fun n => impl_in.f a0 (0 : Int) (3 : Int)) fun t0 => k (.bool t0) ⟨[], []⟩ : Option Unit) := by kernel_rfl
theorem okc_94 (args : List (AV tau)) (m : Mem tau) (κ : AV tau → Mem tau → Option Unit) (hh : c_94 args m κ = some ()) : ∃ av m1, κ av m1 = some () ∧ ToldA Tryd.prog TT (pnT 94) 94 args m av m1 := by
 obtain ⟨bx_, rw_⟩ := m
 unfold c_94 at hh
 simp only at hh
 split at hh
 case h_2 => cases hh
 rename_i b0
 obtain ⟨a0, hx0, hh0⟩ := bO_some hh
 have ex0 := asI_some hx0
 subst ex0
 obtain ⟨N, t, h, hκ⟩ := callX_some hh0
 refine ⟨_, _, hκ, told_of_run pq okC_94 (fun _ _ _ => drawA_ok pq okC_94 hmix) (E := E_94) (fn := Tryd.f94) (body := B_94) (by kernel_rfl) (by kernel_rfl) (by kernel_rfl) (by rfl) (by exact Nat.le_of_ble_eq_true rfl) (fun k hk => ?_)⟩
 refine (w_94 a0 k).trans ?_
 replace h : impl_insOk_2.f a0 = some t := h
 unfold impl_insOk_2.f at h
 refine call_h 0 h (fun t0 e2 h => ?_)
 cases h; exact hk
noncomputable def C_74 : Ctr tau Unit := ctrS 94 c_94 C_94
noncomputable def D_74 : Drw tau := drawA E_74 C_74
theorem okC_74 : CtrOk Tryd.prog TT pnT C_74 := ctrS_ok okC_94 okc_94
theorem mC_74 : CtrMono C_74 := ctrS_mono mC_94 mc_94
theorem mD_74 : DrMono D_74 := drawA_mono mC_74
noncomputable def B_74 : Code := Tryd.f74.body.getD .skip
theorem mc_74 (args : List (AV tau)) (m : Mem tau) (k k' : AV tau → Mem tau → Option Unit) (hk : ∀ av m, k av m = some () → k' av m = some ()) (h : c_74 args m k = some ()) : c_74 args m k' = some () := by
 unfold c_74 at h ⊢
 split at h
 · repeat' first | exact callX_mono (fun _ h => hk _ _ h) h | refine bO_mono (fun _ h => ?_) h
 · cases h
theorem w_74 (a0_0 : Int) (a0_1 : Int) (a0_2 : Int) (a0_3 : Int) (k : AV tau → Mem tau → Option Unit) : fnA E_74 C_74 D_74 Tryd.f74 B_74 [.agg [.int .i64 a0_0, .int .i64 a0_1, .int .i64 a0_2, .int .i64 a0_3]] ⟨[], []⟩ k = (brA (decide (a0_0 = (1 : Int))) (callX (fun n => impl_insOk_1.f a0_1) fun t0 => brA t0 (callX (fun n => impl_insOk_2.f a0_2) fun t1 => brA t1 (k (.bool (decide (a0_3 = (0 : Int)))) ⟨[], []⟩) (k (.bool false) ⟨[], []⟩)) (k (.bool false) ⟨[], []⟩)) (brA (decide (a0_0 = (2 : Int))) (callX (fun n => impl_insOk_2.f a0_1) fun t2 => brA t2 (callX (fun n => impl_insOk_1.f a0_2) fun t3 => brA t3 (k (.bool (decide (a0_3 = (0 : Int)))) ⟨[], []⟩) (k (.bool false) ⟨[], []⟩)) (k (.bool false) ⟨[], []⟩)) (brA (decide (a0_0 = (3 : Int))) (callX (fun n => impl_insOk_1.f a0_1) fun t4 => brA t4 (brA (decide (a0_2 = (0 : Int))) (callX (fun n => impl_in.f a0_3 (-(1000000 : Int)) (1000000 : Int)) fun t5 => k (.bool t5) ⟨[], []⟩) (k (.bool false) ⟨[], []⟩)) (k (.bool false) ⟨[], []⟩)) (brA (decide (a0_0 = (4 : Int))) (brA (decide (a0_0 = (4 : Int))) (callX (fun n => impl_insOk_1.f a0_1) fun t6 => brA t6 (callX (fun n => impl_insOk_1.f a0_2) fun t7 => brA t7 (k (.bool (decide (a0_3 = (0 : Int)))) ⟨[], []⟩) (k (.bool false) ⟨[], []⟩)) (k (.bool false) ⟨[], []⟩)) (brA (decide (a0_0 = (6 : Int))) (callX (fun n => impl_insOk_1.f a0_1) fun t8 => brA t8 (callX (fun n => impl_insOk_1.f a0_2) fun t9 => brA t9 (callX (fun n => impl_in.f a0_3 (1 : Int) (10 : Int)) fun t10 => k (.bool t10) ⟨[], []⟩) (k (.bool false) ⟨[], []⟩)) (k (.bool false) ⟨[], []⟩)) (brA (decide (a0_0 = (7 : Int))) (brA (decide (a0_1 = (0 : Int))) (brA (decide (a0_2 = (0 : Int))) (k (.bool (decide (a0_3 = (0 : Int)))) ⟨[], []⟩) (k (.bool false) ⟨[], []⟩)) (k (.bool false) ⟨[], []⟩)) (k (.bool false) ⟨[], []⟩)))) (brA (decide (a0_0 = (5 : Int))) (callX (fun n => impl_insOk_1.f a0_1) fun t11 => brA t11 (callX (fun n => impl_insOk_1.f a0_2) fun t12 => brA t12 (k (.bool (decide (a0_3 = (0 : Int)))) ⟨[], []⟩) (k (.bool false) ⟨[], []⟩)) (k (.bool false) ⟨[], []⟩)) (brA (decide (a0_0 = (6 : Int))) (callX (fun n => impl_insOk_1.f a0_1) fun t13 => brA t13 (callX (fun n => impl_insOk_1.f a0_2) fun t14 => brA t14 (callX (fun n => impl_in.f a0_3 (1 : Int) (10 : Int)) fun t15 => k (.bool t15) ⟨[], []⟩) (k (.bool false) ⟨[], []⟩)) (k (.bool false) ⟨[], []⟩)) (brA (decide (a0_0 = (7 : Int))) (brA (decide (a0_1 = (0 : Int))) (brA (decide (a0_2 = (0 : Int))) (k (.bool (decide (a0_3 = (0 : Int)))) ⟨[], []⟩) (k (.bool false) ⟨[], []⟩)) (k (.bool false) ⟨[], []⟩)) (k (.bool false) ⟨[], []⟩))))))) : Option Unit) := by kernel_rfl
theorem okc_74 (args : List (AV tau)) (m : Mem tau) (κ : AV tau → Mem tau → Option Unit) (hh : c_74 args m κ = some ()) : ∃ av m1, κ av m1 = some () ∧ ToldA Tryd.prog TT (pnT 74) 74 args m av m1 := by
 obtain ⟨bx_, rw_⟩ := m
 unfold c_74 at hh
 simp only at hh
 split at hh
 case h_2 => cases hh
 rename_i b0 b1 b2 b3
 obtain ⟨a0_0, hx0, hh0⟩ := bO_some hh
 obtain ⟨a0_1, hx1, hh1⟩ := bO_some hh0
 obtain ⟨a0_2, hx2, hh2⟩ := bO_some hh1
 obtain ⟨a0_3, hx3, hh3⟩ := bO_some hh2
 have ex0 := asI_some hx0
 have ex1 := asI_some hx1
 have ex2 := asI_some hx2
 have ex3 := asI_some hx3
 subst ex0 ex1 ex2 ex3
 obtain ⟨N, t, h, hκ⟩ := callX_some hh3
 refine ⟨_, _, hκ, told_of_run pq okC_74 (fun _ _ _ => drawA_ok pq okC_74 hmix) (E := E_74) (fn := Tryd.f74) (body := B_74) (by kernel_rfl) (by kernel_rfl) (by kernel_rfl) (by rfl) (by exact Nat.le_of_ble_eq_true rfl) (fun k hk => ?_)⟩
 refine (w_74 a0_0 a0_1 a0_2 a0_3 k).trans ?_
 replace h : impl_insOk.f N a0_0 a0_1 a0_2 a0_3 = some t := h
 unfold impl_insOk.f at h
 refine br_ite h rfl (fun c45 h => ?_) (fun c45 h => ?_)
 ·refine call_h 0 h (fun t0 e46 h => ?_)
  refine br_eti h dect (fun c47 h => ?_) (fun c47 h => ?_)
  ·cases h; exact hk
  refine call_h 0 h (fun t1 e48 h => ?_)
  refine br_eti h dect (fun c49 h => ?_) (fun c49 h => ?_)
  ·cases h; exact hk
  cases h; exact hk
 refine br_ite h rfl (fun c50 h => ?_) (fun c50 h => ?_)
 ·refine call_h 0 h (fun t2 e51 h => ?_)
  refine br_eti h dect (fun c52 h => ?_) (fun c52 h => ?_)
  ·cases h; exact hk
  refine call_h 0 h (fun t3 e53 h => ?_)
  refine br_eti h dect (fun c54 h => ?_) (fun c54 h => ?_)
  ·cases h; exact hk
  cases h; exact hk
 refine br_ite h rfl (fun c55 h => ?_) (fun c55 h => ?_)
 ·refine call_h 0 h (fun t4 e56 h => ?_)
  refine br_eti h dect (fun c57 h => ?_) (fun c57 h => ?_)
  ·cases h; exact hk
  refine br_eti h rfl (fun c58 h => ?_) (fun c58 h => ?_)
  ·cases h; exact hk
  refine call_h 0 h (fun t5 e59 h => ?_)
  cases h; exact hk
 refine br_ite h rfl (fun c60 h => ?_) (fun c60 h => ?_)
 ·rcases N with _ | N
  · cases h
  first | rw [impl_insOk.j0] at h | simp only [impl_insOk.j0] at h | (unfold impl_insOk.j0 at h; dsimp only at h)
  refine br_ite h (by first | rfl | exact dect | exact (congrArg not dect) | (simp; done) | (simp [beqI]; done) | (simp; omega)) (fun c61 h => ?_) (fun c61 h => ?_)
  ·refine call_h 0 h (fun t6 e62 h => ?_)
   refine br_eti h dect (fun c63 h => ?_) (fun c63 h => ?_)
   ·cases h; exact hk
   refine call_h 0 h (fun t7 e64 h => ?_)
   refine br_eti h dect (fun c65 h => ?_) (fun c65 h => ?_)
   ·cases h; exact hk
   cases h; exact hk
  refine br_eti h rfl (fun c66 h => ?_) (fun c66 h => ?_)
  ·refine br_eti h rfl (fun c67 h => ?_) (fun c67 h => ?_)
   ·cases h; exact hk
   refine br_eti h rfl (fun c68 h => ?_) (fun c68 h => ?_)
   ·cases h; exact hk
   refine br_eti h rfl (fun c69 h => ?_) (fun c69 h => ?_)
   ·cases h; exact hk
   cases h; exact hk
  refine call_h 0 h (fun t8 e70 h => ?_)
  refine br_eti h dect (fun c71 h => ?_) (fun c71 h => ?_)
  ·cases h; exact hk
  refine call_h 0 h (fun t9 e72 h => ?_)
  refine br_eti h dect (fun c73 h => ?_) (fun c73 h => ?_)
  ·cases h; exact hk
  refine call_h 0 h (fun t10 e74 h => ?_)
  cases h; exact hk
 rcases N with _ | N
 · cases h
 first | rw [impl_insOk.j0] at h | simp only [impl_insOk.j0] at h | (unfold impl_insOk.j0 at h; dsimp only at h)
 refine br_ite h (by first | rfl | exact dect | exact (congrArg not dect) | (simp; done) | (simp [beqI]; done) | (simp; omega)) (fun c75 h => ?_) (fun c75 h => ?_)
 ·refine call_h 0 h (fun t11 e76 h => ?_)
  refine br_eti h dect (fun c77 h => ?_) (fun c77 h => ?_)
  ·cases h; exact hk
  refine call_h 0 h (fun t12 e78 h => ?_)
  refine br_eti h dect (fun c79 h => ?_) (fun c79 h => ?_)
  ·cases h; exact hk
  cases h; exact hk
 refine br_eti h rfl (fun c80 h => ?_) (fun c80 h => ?_)
 ·refine br_eti h rfl (fun c81 h => ?_) (fun c81 h => ?_)
  ·cases h; exact hk
  refine br_eti h rfl (fun c82 h => ?_) (fun c82 h => ?_)
  ·cases h; exact hk
  refine br_eti h rfl (fun c83 h => ?_) (fun c83 h => ?_)
  ·cases h; exact hk
  cases h; exact hk
 refine call_h 0 h (fun t13 e84 h => ?_)
 refine br_eti h dect (fun c85 h => ?_) (fun c85 h => ?_)
 ·cases h; exact hk
 refine call_h 0 h (fun t14 e86 h => ?_)
 refine br_eti h dect (fun c87 h => ?_) (fun c87 h => ?_)
 ·cases h; exact hk
 refine call_h 0 h (fun t15 e88 h => ?_)
 cases h; exact hk
noncomputable def C_29 : Ctr tau Unit := ctrS 74 c_74 C_74
noncomputable def D_29 : Drw tau := drawA E_29 C_29
theorem okC_29 : CtrOk Tryd.prog TT pnT C_29 := ctrS_ok okC_74 okc_74
theorem mC_29 : CtrMono C_29 := ctrS_mono mC_74 mc_74
theorem mD_29 : DrMono D_29 := drawA_mono mC_29
noncomputable def B_29 : Code := Tryd.f29.body.getD .skip
theorem mc_29 (args : List (AV tau)) (m : Mem tau) (k k' : AV tau → Mem tau → Option Unit) (hk : ∀ av m, k av m = some () → k' av m = some ()) (h : c_29 args m k = some ()) : c_29 args m k' = some () := by
 unfold c_29 at h ⊢
 split at h
 · repeat' first | exact callX_mono (fun _ h => hk _ _ h) h | refine bO_mono (fun _ h => ?_) h
 · cases h
noncomputable def K_29_0 (k : AV tau → Mem tau → Option Unit) : Kon tau := (kBlock 0 (kS E_29 C_29 D_29 (codeP B_29 [1, 1]) (kEnd E_29 Tryd.f29 k)))
def st_29_0 (x0 : (List S60)) (x1 : (List S60)) (x2 : Int) (x3 : Int) : St tau := ⟨tmL 18 0 [(0, .sl 60 x0), (5, .sl 60 x1), (6, .int .i64 x2), (7, .int .i64 x3)], ⟨[], []⟩⟩
noncomputable def LP_29_0 (k : AV tau → Mem tau → Option Unit) (x0 : (List S60)) (x1 : (List S60)) (x2 : Int) (x3 : Int) : Option Unit := loopA E_29 (codeA E_29 C_29 D_29 (codeP B_29 [1, 0, 1, 0, 0])) (codeP B_29 [1, 0, 1, 0, 0]) (K_29_0 k) (st_29_0 x0 x1 x2 x3)
theorem w_29_0 (k : AV tau → Mem tau → Option Unit) (x0 : (List S60)) (x1 : (List S60)) (x2 : Int) (x3 : Int) : codeA E_29 C_29 D_29 (codeP B_29 [1, 0, 1, 0, 0]) (kL E_29 C_29 D_29 (codeP B_29 [1, 0, 1, 0, 0]) (K_29_0 k)) (st_29_0 x0 x1 x2 x3) = (brA (decide (x3 < x2)) (brA (decide ((0 : Int) ≤ x3)) (brA (decide (x3 < ((x1.length : Nat) : Int))) (callX (fun n => impl_insOk.f n ((rd_T60 x1 x3).f0) ((rd_T60 x1 x3).f1) ((rd_T60 x1 x3).f2) ((rd_T60 x1 x3).f3)) fun t0 => brA (!t0) (k (.bool false) ⟨[], []⟩) (LP_29_0 k x0 x1 x2 (wrap64 (x3 + (1 : Int))))) (none)) (none)) (k (.bool (decide (((x0.length : Nat) : Int) ≤ (10 : Int)))) ⟨[], []⟩) : Option Unit) := by
 simp only [← wrapA_i64]
 kernel_rfl
theorem w_29 (l0 : List S60) (k : AV tau → Mem tau → Option Unit) : fnA E_29 C_29 D_29 Tryd.f29 B_29 [.sl 60 l0] ⟨[], []⟩ k = (LP_29_0 k l0 l0 ((l0.length : Nat) : Int) (0 : Int) : Option Unit) := by kernel_rfl
def S_29_0 (N : Nat) : Prop := ∀ (k : AV tau → Mem tau → Option Unit) (x0 : (List S60)) (x1 : (List S60)) (x2 : Int) (x3 : Int) (r : Bool), impl_ProgOk.l0 N (x0) (x1) (x2) (x3) = some r → k (.bool (r)) ⟨[], []⟩ = some () → LP_29_0 k x0 x1 x2 x3 = some ()
theorem L_29 (N : Nat) : S_29_0 N := by
 induction N using Nat.strongRecOn with | _ N0 ih =>
 skip
 intro k x0 x1 x2 x3 r h hk
 rcases N0 with _ | N
 · cases h
 first | rw [impl_ProgOk.l0] at h | simp only [impl_ProgOk.l0] at h | (unfold impl_ProgOk.l0 at h; dsimp only at h)
 refine loop_fold mC_29 mD_29 ?_
 refine (w_29_0 k x0 x1 x2 x3).trans ?_
 refine br_eti h rfl (fun c11 h => ?_) (fun c11 h => ?_)
 ·cases h; exact hk
 refine br_g h rfl (fun c12 h => ?_)
 refine br_g h rfl (fun c13 h => ?_)
 refine call_h N h (fun t0 e14 h => ?_)
 refine br_etn h (congrArg not dect) (fun c15 h => ?_) (fun c15 h => ?_)
 ·cases h; exact hk
 exact (ih N (by omega)) _ _ _ _ _ _ h hk
theorem okc_29 (args : List (AV tau)) (m : Mem tau) (κ : AV tau → Mem tau → Option Unit) (hh : c_29 args m κ = some ()) : ∃ av m1, κ av m1 = some () ∧ ToldA Tryd.prog TT (pnT 29) 29 args m av m1 := by
 obtain ⟨bx_, rw_⟩ := m
 unfold c_29 at hh
 simp only at hh
 split at hh
 case h_2 => cases hh
 rename_i b0
 obtain ⟨l0, hx0, hh0⟩ := bO_some hh
 have ex0 := asSl_some hx0
 subst ex0
 obtain ⟨N, t, h, hκ⟩ := callX_some hh0
 refine ⟨_, _, hκ, told_of_run pq okC_29 (fun _ _ _ => drawA_ok pq okC_29 hmix) (E := E_29) (fn := Tryd.f29) (body := B_29) (by kernel_rfl) (by kernel_rfl) (by kernel_rfl) (by rfl) (by exact Nat.le_of_ble_eq_true rfl) (fun k hk => ?_)⟩
 refine (w_29 l0 k).trans ?_
 replace h : impl_ProgOk.f N l0 = some t := h
 unfold impl_ProgOk.f at h
 exact (L_29 N) _ _ _ _ _ _ h hk
noncomputable def C_54 : Ctr tau Unit := ctrS 29 c_29 C_29
noncomputable def D_54 : Drw tau := drawA E_54 C_54
theorem okC_54 : CtrOk Tryd.prog TT pnT C_54 := ctrS_ok okC_29 okc_29
theorem mC_54 : CtrMono C_54 := ctrS_mono mC_29 mc_29
theorem mD_54 : DrMono D_54 := drawA_mono mC_54
noncomputable def B_54 : Code := Tryd.f54.body.getD .skip
theorem mc_54 (args : List (AV tau)) (m : Mem tau) (k k' : AV tau → Mem tau → Option Unit) (hk : ∀ av m, k av m = some () → k' av m = some ()) (h : c_54 args m k = some ()) : c_54 args m k' = some () := by
 unfold c_54 at h ⊢
 split at h
 · repeat' first | exact callX_mono (fun _ h => hk _ _ h) h | refine bO_mono (fun _ h => ?_) h
 · cases h
theorem w_54 (l0 : List S60) (k : AV tau → Mem tau → Option Unit) : fnA E_54 C_54 D_54 Tryd.f54 B_54 [.sl 60 l0] ⟨[], []⟩ k = (brA (decide (((l0.length : Nat) : Int) = (0 : Int))) (k (.own 0 0) ⟨[], [some ⟨60, ([] : List S60), 0⟩]⟩) (brA (decide ((Int.toNat ((l0.length : Nat) : Int)) ≤ 8796093022208)) (k (.own 0 0) ⟨[], [some ⟨60, ((List.take ((List.replicate (Int.toNat ((l0.length : Nat) : Int)) (⟨(0 : Int), (0 : Int), (0 : Int), (0 : Int)⟩ : S60)).length) l0) ++ (List.drop l0.length (List.replicate (Int.toNat ((l0.length : Nat) : Int)) (⟨(0 : Int), (0 : Int), (0 : Int), (0 : Int)⟩ : S60)))), 0⟩]⟩) (none)) : Option Unit) := by kernel_rfl
theorem okc_54 (args : List (AV tau)) (m : Mem tau) (κ : AV tau → Mem tau → Option Unit) (hh : c_54 args m κ = some ()) : ∃ av m1, κ av m1 = some () ∧ ToldA Tryd.prog TT (pnT 54) 54 args m av m1 := by
 obtain ⟨bx_, rw_⟩ := m
 unfold c_54 at hh
 simp only at hh
 split at hh
 case h_2 => cases hh
 rename_i b0
 obtain ⟨l0, hx0, hh0⟩ := bO_some hh
 have ex0 := asSl_some hx0
 subst ex0
 obtain ⟨N, t, h, hκ⟩ := callX_some hh0
 refine ⟨_, _, hκ, told_of_run pq okC_54 (fun _ _ _ => drawA_ok pq okC_54 hmix) (E := E_54) (fn := Tryd.f54) (body := B_54) (by kernel_rfl) (by kernel_rfl) (by kernel_rfl) (by rfl) (by exact Nat.le_of_ble_eq_true rfl) (fun k hk => ?_)⟩
 refine (w_54 l0 k).trans ?_
 replace h : impl_copied_impl_Ins.f l0 = some t := h
 unfold impl_copied_impl_Ins.f at h
 refine ite_x h (fun c1 h => ?_) (fun _ h => by cases h)
 cases h
 exact copied_of (α := S60) l0 _ _ (k := fun q : List S60 => k (.own 0 0) ⟨[], [some ⟨60, q, 0⟩]⟩) c1 hk
noncomputable def C_57 : Ctr tau Unit := ctrS 54 c_54 C_54
noncomputable def D_57 : Drw tau := drawA E_57 C_57
theorem okC_57 : CtrOk Tryd.prog TT pnT C_57 := ctrS_ok okC_54 okc_54
theorem mC_57 : CtrMono C_57 := ctrS_mono mC_54 mc_54
theorem mD_57 : DrMono D_57 := drawA_mono mC_57
noncomputable def B_57 : Code := Tryd.f57.body.getD .skip
theorem mc_57 (args : List (AV tau)) (m : Mem tau) (k k' : AV tau → Mem tau → Option Unit) (hk : ∀ av m, k av m = some () → k' av m = some ()) (h : c_57 args m k = some ()) : c_57 args m k' = some () := by
 unfold c_57 at h ⊢
 split at h
 · repeat' first | exact callX_mono (fun _ h => hk _ _ h) h | refine bO_mono (fun _ h => ?_) h
 · cases h
theorem w_57 (l0 : List Int) (k : AV tau → Mem tau → Option Unit) : fnA E_57 C_57 D_57 Tryd.f57 B_57 [.sl 5 l0] ⟨[], []⟩ k = (brA (decide (((l0.length : Nat) : Int) > (2000 : Int))) (brA (decide ((2000 : Int) ≤ ((l0.length : Nat) : Int))) (k (.ptr 0 0) ⟨[some (98, [.sl 5 (List.take 2000 l0), .int .i64 (0 : Int)])], []⟩) (none)) (k (.ptr 0 0) ⟨[some (98, [.sl 5 l0, .int .i64 (0 : Int)])], []⟩) : Option Unit) := by kernel_rfl
theorem okc_57 (args : List (AV tau)) (m : Mem tau) (κ : AV tau → Mem tau → Option Unit) (hh : c_57 args m κ = some ()) : ∃ av m1, κ av m1 = some () ∧ ToldA Tryd.prog TT (pnT 57) 57 args m av m1 := by
 obtain ⟨bx_, rw_⟩ := m
 unfold c_57 at hh
 simp only at hh
 split at hh
 case h_2 => cases hh
 rename_i b0
 obtain ⟨l0, hx0, hh0⟩ := bO_some hh
 have ex0 := asSl_some hx0
 subst ex0
 obtain ⟨N, t, h, hκ⟩ := callX_some hh0
 refine ⟨_, _, hκ, told_of_run pq okC_57 (fun _ _ _ => drawA_ok pq okC_57 hmix) (E := E_57) (fn := Tryd.f57) (body := B_57) (by kernel_rfl) (by kernel_rfl) (by kernel_rfl) (by rfl) (by exact Nat.le_of_ble_eq_true rfl) (fun k hk => ?_)⟩
 refine (w_57 l0 k).trans ?_
 replace h : spec_l15Open.f l0 = some t := h
 unfold spec_l15Open.f at h
 refine br_eti h rfl (fun c3 h => ?_) (fun c3 h => ?_)
 ·cases h; exact hk
 refine br_g h rfl (fun c4 h => ?_)
 cases h; exact hk
noncomputable def C_67 : Ctr tau Unit := ctrS 57 c_57 C_57
noncomputable def D_67 : Drw tau := drawA E_67 C_67
theorem okC_67 : CtrOk Tryd.prog TT pnT C_67 := ctrS_ok okC_57 okc_57
theorem mC_67 : CtrMono C_67 := ctrS_mono mC_57 mc_57
theorem mD_67 : DrMono D_67 := drawA_mono mC_67
noncomputable def B_67 : Code := Tryd.f67.body.getD .skip
theorem mc_67 (args : List (AV tau)) (m : Mem tau) (k k' : AV tau → Mem tau → Option Unit) (hk : ∀ av m, k av m = some () → k' av m = some ()) (h : c_67 args m k = some ()) : c_67 args m k' = some () := by
 unfold c_67 at h ⊢
 split at h
 · repeat' first | exact callX_mono (fun _ h => hk _ _ h) h | refine bO_mono (fun _ h => ?_) h
 · cases h
theorem w_67 (s0_0 : List Int) (s0_1 : Int) (a1 : Int) (k : AV tau → Mem tau → Option Unit) : fnA E_67 C_67 D_67 Tryd.f67 B_67 [.ptr 0 0, .int .i64 a1] ⟨[some (98, [.sl 5 s0_0, .int .i64 s0_1])], []⟩ k = (brA (decide (a1 < (1 : Int))) (k (.int .i64 (0 : Int)) ⟨[some (98, [.sl 5 s0_0, .int .i64 (wrap64 (s0_1 + (1 : Int)))])], []⟩) (brA (decide (((s0_0.length : Nat) : Int) = (0 : Int))) (k (.int .i64 (0 : Int)) ⟨[some (98, [.sl 5 s0_0, .int .i64 (wrap64 (s0_1 + (1 : Int)))])], []⟩) (brA (decide ((wrap64 ((wrap64 (s0_1 + (1 : Int))) - (1 : Int))) < ((s0_0.length : Nat) : Int))) (brA (decide ((0 : Int) ≤ (wrap64 ((wrap64 (s0_1 + (1 : Int))) - (1 : Int))))) (brA (decide ((wrap64 ((wrap64 (s0_1 + (1 : Int))) - (1 : Int))) < ((s0_0.length : Nat) : Int))) (brA (!(decide (a1 = (0 : Int)))) (k (.int .i64 (Int.tmod (wrap64 (rd s0_0 (wrap64 ((wrap64 (s0_1 + (1 : Int))) - (1 : Int))))) a1)) ⟨[some (98, [.sl 5 s0_0, .int .i64 (wrap64 (s0_1 + (1 : Int)))])], []⟩) (none)) (none)) (none)) (brA (!(decide (((s0_0.length : Nat) : Int) = (0 : Int)))) (brA (decide ((0 : Int) ≤ (Int.tmod (wrap64 ((wrap64 (s0_1 + (1 : Int))) - (1 : Int))) ((s0_0.length : Nat) : Int)))) (brA (decide ((Int.tmod (wrap64 ((wrap64 (s0_1 + (1 : Int))) - (1 : Int))) ((s0_0.length : Nat) : Int)) < ((s0_0.length : Nat) : Int))) (brA (!(decide (((s0_0.length : Nat) : Int) = (0 : Int)))) (brA (decide ((0 : Int) ≤ (Int.tmod (wrap64 ((wrap64 ((wrap64 ((wrap64 (s0_1 + (1 : Int))) - (1 : Int))) * (7 : Int))) + (3 : Int))) ((s0_0.length : Nat) : Int)))) (brA (decide ((Int.tmod (wrap64 ((wrap64 ((wrap64 ((wrap64 (s0_1 + (1 : Int))) - (1 : Int))) * (7 : Int))) + (3 : Int))) ((s0_0.length : Nat) : Int)) < ((s0_0.length : Nat) : Int))) (brA (!(decide (((s0_0.length : Nat) : Int) = (0 : Int)))) (brA (!(decide (a1 = (0 : Int)))) (k (.int .i64 (Int.tmod (Go.bits .xor .i64 (wrap64 ((wrap64 ((wrap64 ((wrap64 ((wrap64 (rd s0_0 (Int.tmod (wrap64 ((wrap64 (s0_1 + (1 : Int))) - (1 : Int))) ((s0_0.length : Nat) : Int)))) * (131 : Int))) + (wrap64 ((wrap64 (rd s0_0 (Int.tmod (wrap64 ((wrap64 ((wrap64 ((wrap64 (s0_1 + (1 : Int))) - (1 : Int))) * (7 : Int))) + (3 : Int))) ((s0_0.length : Nat) : Int)))) * (1117 : Int))))) + (wrap64 ((wrap64 ((wrap64 (s0_1 + (1 : Int))) - (1 : Int))) * (29 : Int))))) + (wrap64 ((wrap64 (Int.tdiv (wrap64 ((wrap64 (s0_1 + (1 : Int))) - (1 : Int))) ((s0_0.length : Nat) : Int))) * (53 : Int))))) (wrap64 (Int.tdiv (wrap64 ((wrap64 ((wrap64 ((wrap64 ((wrap64 (rd s0_0 (Int.tmod (wrap64 ((wrap64 (s0_1 + (1 : Int))) - (1 : Int))) ((s0_0.length : Nat) : Int)))) * (131 : Int))) + (wrap64 ((wrap64 (rd s0_0 (Int.tmod (wrap64 ((wrap64 ((wrap64 ((wrap64 (s0_1 + (1 : Int))) - (1 : Int))) * (7 : Int))) + (3 : Int))) ((s0_0.length : Nat) : Int)))) * (1117 : Int))))) + (wrap64 ((wrap64 ((wrap64 (s0_1 + (1 : Int))) - (1 : Int))) * (29 : Int))))) + (wrap64 ((wrap64 (Int.tdiv (wrap64 ((wrap64 (s0_1 + (1 : Int))) - (1 : Int))) ((s0_0.length : Nat) : Int))) * (53 : Int))))) (64 : Int)))) a1)) ⟨[some (98, [.sl 5 s0_0, .int .i64 (wrap64 (s0_1 + (1 : Int)))])], []⟩) (none)) (none)) (none)) (none)) (none)) (none)) (none)) (none)))) : Option Unit) := by
 simp only [← wrapA_i64]
 kernel_rfl
theorem okc_67 (args : List (AV tau)) (m : Mem tau) (κ : AV tau → Mem tau → Option Unit) (hh : c_67 args m κ = some ()) : ∃ av m1, κ av m1 = some () ∧ ToldA Tryd.prog TT (pnT 67) 67 args m av m1 := by
 obtain ⟨bx_, rw_⟩ := m
 unfold c_67 at hh
 simp only at hh
 split at hh
 case h_2 => cases hh
 rename_i p0 b0 t0_ c0_0 c0_1
 obtain ⟨u12, hx0, hh0⟩ := bO_some hh
 obtain ⟨u13, hx1, hh1⟩ := bO_some hh0
 obtain ⟨s0_0, hx2, hh2⟩ := bO_some hh1
 obtain ⟨s0_1, hx3, hh3⟩ := bO_some hh2
 obtain ⟨a1, hx4, hh4⟩ := bO_some hh3
 have ex0 := asPtr_some hx0
 have ex1 := asT_some hx1
 have ex2 := asSl_some hx2
 have ex3 := asI_some hx3
 have ex4 := asI_some hx4
 subst ex0 ex1 ex2 ex3 ex4
 obtain ⟨N, t, h, hκ⟩ := callX_some hh4
 refine ⟨_, _, hκ, told_of_run pq okC_67 (fun _ _ _ => drawA_ok pq okC_67 hmix) (E := E_67) (fn := Tryd.f67) (body := B_67) (by kernel_rfl) (by kernel_rfl) (by kernel_rfl) (by rfl) (by exact Nat.le_of_ble_eq_true rfl) (fun k hk => ?_)⟩
 refine (w_67 s0_0 s0_1 a1 k).trans ?_
 replace h : spec_l15Rd_pick.f N s0_0 s0_1 a1 = some t := h
 unfold spec_l15Rd_pick.f at h
 refine br_ite h rfl (fun c14 h => ?_) (fun c14 h => ?_)
 ·rcases N with _ | N
  · cases h
  first | rw [spec_l15Rd_pick.j0] at h | simp only [spec_l15Rd_pick.j0] at h | (unfold spec_l15Rd_pick.j0 at h; dsimp only at h)
  replace h := ite_t h (by first | assumption | omega | simp_all)
  cases h; exact hk
 rcases N with _ | N
 · cases h
 first | rw [spec_l15Rd_pick.j0] at h | simp only [spec_l15Rd_pick.j0] at h | (unfold spec_l15Rd_pick.j0 at h; dsimp only at h)
 refine br_ite h (by first | rfl | exact dect | exact (congrArg not dect) | (simp; done) | (simp [beqI]; done) | (simp; omega)) (fun c15 h => ?_) (fun c15 h => ?_)
 ·cases h; exact hk
 refine br_ite h rfl (fun c16 h => ?_) (fun c16 h => ?_)
 ·refine br_g h rfl (fun c17 h => ?_)
  refine br_t (by first | (simp [c16]; done) | (simp; omega) | (simp only [List.length_append, List.length_cons, List.length_nil, List.length_take, List.length_drop] at c16 c15 ⊢; simp; omega) | (simp only [List.length_append, List.length_cons, List.length_nil, List.length_take, List.length_drop] at c16 c15; simp; omega) | (simp_all; done)) ?_
  refine br_nn h rfl (fun c18 h => ?_)
  cases h; exact hk
 refine br_nn h rfl (fun c19 h => ?_)
 refine br_g h rfl (fun c20 h => ?_)
 refine br_g h rfl (fun c21 h => ?_)
 refine br_t (by first | (simp [c19]; done) | (simp; omega) | (simp only [List.length_append, List.length_cons, List.length_nil, List.length_take, List.length_drop] at c21 c20 c19 c16 c15 ⊢; simp; omega) | (simp only [List.length_append, List.length_cons, List.length_nil, List.length_take, List.length_drop] at c21 c20 c19 c16 c15; simp; omega) | (simp_all; done)) ?_
 refine br_g h rfl (fun c22 h => ?_)
 refine br_g h rfl (fun c23 h => ?_)
 refine br_t (by first | (simp [c19]; done) | (simp; omega) | (simp only [List.length_append, List.length_cons, List.length_nil, List.length_take, List.length_drop] at c23 c22 c21 c20 c19 ⊢; simp; omega) | (simp only [List.length_append, List.length_cons, List.length_nil, List.length_take, List.length_drop] at c23 c22 c21 c20 c19; simp; omega) | (simp_all; done)) ?_
 refine br_nn h rfl (fun c24 h => ?_)
 cases h; exact hk
noncomputable def C_85 : Ctr tau Unit := ctrS 67 c_67 C_67
noncomputable def D_85 : Drw tau := drawA E_85 C_85
theorem okC_85 : CtrOk Tryd.prog TT pnT C_85 := ctrS_ok okC_67 okc_67
theorem mC_85 : CtrMono C_85 := ctrS_mono mC_67 mc_67
theorem mD_85 : DrMono D_85 := drawA_mono mC_85
noncomputable def B_85 : Code := Tryd.f85.body.getD .skip
theorem mc_85 (args : List (AV tau)) (m : Mem tau) (k k' : AV tau → Mem tau → Option Unit) (hk : ∀ av m, k av m = some () → k' av m = some ()) (h : c_85 args m k = some ()) : c_85 args m k' = some () := by
 unfold c_85 at h ⊢
 split at h
 · repeat' first | exact callX_mono (fun _ h => hk _ _ h) h | refine bO_mono (fun _ h => ?_) h
 · cases h
theorem w_85 (s0_0 : List Int) (s0_1 : Int) (l1 : List Int) (k : AV tau → Mem tau → Option Unit) : fnA E_85 C_85 D_85 Tryd.f85 B_85 [.ptr 0 0, .own 0 0] ⟨[some (98, [.sl 5 s0_0, .int .i64 s0_1])], [some ⟨3, l1, 0⟩]⟩ k = (callX (fun n => spec_l15Rd_pick.f n s0_0 s0_1 ((l1.length : Nat) : Int)) fun t0 => brA (decide ((0 : Int) ≤ t0.1)) (brA (decide (t0.1 < ((l1.length : Nat) : Int))) (k (.int .i64 (rd l1 t0.1)) ⟨[some (98, [.sl 5 s0_0, .int .i64 t0.2])], [some ⟨3, l1, 0⟩]⟩) (none)) (none) : Option Unit) := by kernel_rfl
theorem okc_85 (args : List (AV tau)) (m : Mem tau) (κ : AV tau → Mem tau → Option Unit) (hh : c_85 args m κ = some ()) : ∃ av m1, κ av m1 = some () ∧ ToldA Tryd.prog TT (pnT 85) 85 args m av m1 := by
 obtain ⟨bx_, rw_⟩ := m
 unfold c_85 at hh
 simp only at hh
 split at hh
 case h_2 => cases hh
 rename_i p0 b0 t0_ c0_0 c0_1 r0
 obtain ⟨u4, hx0, hh0⟩ := bO_some hh
 obtain ⟨u5, hx1, hh1⟩ := bO_some hh0
 obtain ⟨s0_0, hx2, hh2⟩ := bO_some hh1
 obtain ⟨s0_1, hx3, hh3⟩ := bO_some hh2
 obtain ⟨u6, hx4, hh4⟩ := bO_some hh3
 obtain ⟨l1, hx5, hh5⟩ := bO_some hh4
 have ex0 := asPtr_some hx0
 have ex1 := asT_some hx1
 have ex2 := asSl_some hx2
 have ex3 := asI_some hx3
 have ex4 := asOwn_some hx4
 have ex5 := asRow_some hx5
 subst ex0 ex1 ex2 ex3 ex4 ex5
 obtain ⟨N, t, h, hκ⟩ := callX_some hh5
 refine ⟨_, _, hκ, told_of_run pq okC_85 (fun _ _ _ => drawA_ok pq okC_85 hmix) (E := E_85) (fn := Tryd.f85) (body := B_85) (by kernel_rfl) (by kernel_rfl) (by kernel_rfl) (by rfl) (by exact Nat.le_of_ble_eq_true rfl) (fun k hk => ?_)⟩
 refine (w_85 s0_0 s0_1 l1 k).trans ?_
 replace h : spec_l15Rd_num.f N s0_0 s0_1 l1 = some t := h
 unfold spec_l15Rd_num.f at h
 refine call_h N h (fun t0 e7 h => ?_)
 refine br_g h rfl (fun c8 h => ?_)
 refine br_g h rfl (fun c9 h => ?_)
 cases h; exact hk
noncomputable def C_106 : Ctr tau Unit := ctrS 85 c_85 C_85
noncomputable def D_106 : Drw tau := drawA E_106 C_106
theorem okC_106 : CtrOk Tryd.prog TT pnT C_106 := ctrS_ok okC_85 okc_85
theorem mC_106 : CtrMono C_106 := ctrS_mono mC_85 mc_85
theorem mD_106 : DrMono D_106 := drawA_mono mC_106
noncomputable def B_106 : Code := Tryd.f106.body.getD .skip
theorem mc_106 (args : List (AV tau)) (m : Mem tau) (k k' : AV tau → Mem tau → Option Unit) (hk : ∀ av m, k av m = some () → k' av m = some ()) (h : c_106 args m k = some ()) : c_106 args m k' = some () := by
 unfold c_106 at h ⊢
 split at h
 · repeat' first | exact callX_mono (fun _ h => hk _ _ h) h | refine bO_mono (fun _ h => ?_) h
 · cases h
theorem w_106 (s0_0 : List Int) (s0_1 : Int) (k : AV tau → Mem tau → Option Unit) : fnA E_106 C_106 D_106 Tryd.f106 B_106 [.ptr 0 0] ⟨[some (98, [.sl 5 s0_0, .int .i64 s0_1])], []⟩ k = (callX (fun n => spec_l15Rd_num.f n s0_0 s0_1 ([(1 : Int), (1 : Int), (2 : Int), (2 : Int), (3 : Int), (4 : Int), (4 : Int), (5 : Int), (6 : Int), (7 : Int)] : List Int)) fun t0 => callX (fun n => spec_l15Rd_pick.f n s0_0 t0.2 (3 : Int)) fun t1 => callX (fun n => spec_l15Rd_pick.f n s0_0 t1.2 (3 : Int)) fun t2 => brA (decide (t0.1 = (3 : Int))) (callX (fun n => spec_l15Rd_num.f n s0_0 t2.2 ([(0 : Int), (1 : Int), (5 : Int), (-(2 : Int)), (100 : Int), (1000000 : Int)] : List Int)) fun t3 => k (.agg [.int .i64 t0.1, .int .i64 t1.1, .int .i64 (0 : Int), .int .i64 t3.1]) ⟨[some (98, [.sl 5 s0_0, .int .i64 t3.2])], []⟩) (brA (decide (t0.1 = (6 : Int))) (callX (fun n => spec_l15Rd_pick.f n s0_0 t2.2 (3 : Int)) fun t4 => k (.agg [.int .i64 t0.1, .int .i64 t1.1, .int .i64 t2.1, .int .i64 (wrap64 ((1 : Int) + t4.1))]) ⟨[some (98, [.sl 5 s0_0, .int .i64 t4.2])], []⟩) (brA (decide (t0.1 = (7 : Int))) (callX (fun n => spec_l15Rd_pick.f n s0_0 t2.2 (3 : Int)) fun t5 => brA (decide (t5.1 > (0 : Int))) (callX (fun n => spec_l15Rd_pick.f n s0_0 t5.2 (4 : Int)) fun t6 => callX (fun n => spec_l15Rd_pick.f n s0_0 t6.2 (4 : Int)) fun t7 => k (.agg [.int .i64 (4 : Int), .int .i64 t6.1, .int .i64 t7.1, .int .i64 (0 : Int)]) ⟨[some (98, [.sl 5 s0_0, .int .i64 t7.2])], []⟩) (k (.agg [.int .i64 t0.1, .int .i64 (0 : Int), .int .i64 (0 : Int), .int .i64 (0 : Int)]) ⟨[some (98, [.sl 5 s0_0, .int .i64 t5.2])], []⟩)) (k (.agg [.int .i64 t0.1, .int .i64 t1.1, .int .i64 t2.1, .int .i64 (0 : Int)]) ⟨[some (98, [.sl 5 s0_0, .int .i64 t2.2])], []⟩))) : Option Unit) := by
 simp only [← wrapA_i64]
 kernel_rfl
theorem okc_106 (args : List (AV tau)) (m : Mem tau) (κ : AV tau → Mem tau → Option Unit) (hh : c_106 args m κ = some ()) : ∃ av m1, κ av m1 = some () ∧ ToldA Tryd.prog TT (pnT 106) 106 args m av m1 := by
 obtain ⟨bx_, rw_⟩ := m
 unfold c_106 at hh
 simp only at hh
 split at hh
 case h_2 => cases hh
 rename_i p0 t0_ c0_0 c0_1
 obtain ⟨u13, hx0, hh0⟩ := bO_some hh
 obtain ⟨u14, hx1, hh1⟩ := bO_some hh0
 obtain ⟨s0_0, hx2, hh2⟩ := bO_some hh1
 obtain ⟨s0_1, hx3, hh3⟩ := bO_some hh2
 have ex0 := asPtr_some hx0
 have ex1 := asT_some hx1
 have ex2 := asSl_some hx2
 have ex3 := asI_some hx3
 subst ex0 ex1 ex2 ex3
 obtain ⟨N, t, h, hκ⟩ := callX_some hh3
 refine ⟨_, _, hκ, told_of_run pq okC_106 (fun _ _ _ => drawA_ok pq okC_106 hmix) (E := E_106) (fn := Tryd.f106) (body := B_106) (by kernel_rfl) (by kernel_rfl) (by kernel_rfl) (by rfl) (by exact Nat.le_of_ble_eq_true rfl) (fun k hk => ?_)⟩
 refine (w_106 s0_0 s0_1 k).trans ?_
 replace h : spec_l2Any.f N s0_0 s0_1 = some t := h
 unfold spec_l2Any.f at h
 refine call_h N h (fun t0 e15 h => ?_)
 refine call_h N h (fun t1 e16 h => ?_)
 refine call_h N h (fun t2 e17 h => ?_)
 refine br_ite h rfl (fun c18 h => ?_) (fun c18 h => ?_)
 ·refine call_h N h (fun t3 e19 h => ?_)
  cases h; exact hk
 refine br_ite h rfl (fun c20 h => ?_) (fun c20 h => ?_)
 ·refine call_h N h (fun t4 e21 h => ?_)
  cases h; exact hk
 refine br_eti h rfl (fun c22 h => ?_) (fun c22 h => ?_)
 ·cases h; exact hk
 refine call_h N h (fun t5 e23 h => ?_)
 refine br_eti h rfl (fun c24 h => ?_) (fun c24 h => ?_)
 ·cases h; exact hk
 refine call_h N h (fun t6 e25 h => ?_)
 refine call_h N h (fun t7 e26 h => ?_)
 cases h; exact hk
noncomputable def C_92 : Ctr tau Unit := ctrS 106 c_106 C_106
noncomputable def D_92 : Drw tau := drawA E_92 C_92
theorem okC_92 : CtrOk Tryd.prog TT pnT C_92 := ctrS_ok okC_106 okc_106
theorem mC_92 : CtrMono C_92 := ctrS_mono mC_106 mc_106
theorem mD_92 : DrMono D_92 := drawA_mono mC_92
noncomputable def B_92 : Code := Tryd.f92.body.getD .skip
theorem mc_92 (args : List (AV tau)) (m : Mem tau) (k k' : AV tau → Mem tau → Option Unit) (hk : ∀ av m, k av m = some () → k' av m = some ()) (h : c_92 args m k = some ()) : c_92 args m k' = some () := by
 unfold c_92 at h ⊢
 split at h
 · repeat' first | exact callX_mono (fun _ h => hk _ _ h) h | refine bO_mono (fun _ h => ?_) h
 · cases h
noncomputable def K_92_0 (k : AV tau → Mem tau → Option Unit) : Kon tau := (kBlock 0 (kS E_92 C_92 D_92 (codeP B_92 [1, 1, 1, 1]) (kEnd E_92 Tryd.f92 k)))
def st_92_0 (x0 : Int) (x1 : (List Int)) (x2 : Int) (x3 : (List S60)) : St tau := ⟨tmL 37 0 [(0, .ptr 0 0), (5, .own 0 0), (6, .int .i64 x0)], ⟨[some (98, [.sl 5 x1, .int .i64 x2])], [some ⟨60, x3, 0⟩]⟩⟩
noncomputable def LP_92_0 (k : AV tau → Mem tau → Option Unit) (x0 : Int) (x1 : (List Int)) (x2 : Int) (x3 : (List S60)) : Option Unit := loopA E_92 (codeA E_92 C_92 D_92 (codeP B_92 [1, 1, 1, 0, 1, 0, 0])) (codeP B_92 [1, 1, 1, 0, 1, 0, 0]) (K_92_0 k) (st_92_0 x0 x1 x2 x3)
theorem w_92_0 (k : AV tau → Mem tau → Option Unit) (x0 : Int) (x1 : (List Int)) (x2 : Int) (x3 : (List S60)) : codeA E_92 C_92 D_92 (codeP B_92 [1, 1, 1, 0, 1, 0, 0]) (kL E_92 C_92 D_92 (codeP B_92 [1, 1, 1, 0, 1, 0, 0]) (K_92_0 k)) (st_92_0 x0 x1 x2 x3) = (brA (decide (x0 > (0 : Int))) (callX (fun n => spec_l2Any.f n x1 x2) fun t5 => brA (decide ((x3.length + 1) ≤ 4398046511104)) (LP_92_0 k (wrap64 (x0 - (1 : Int))) x1 t5.2.2.2.2 (x3 ++ ([(⟨t5.1, t5.2.1, t5.2.2.1, t5.2.2.2.1⟩ : S60)] : List S60))) (none)) (k (.own 0 0) ⟨[some (98, [.sl 5 x1, .int .i64 x2])], [some ⟨60, x3, 0⟩]⟩) : Option Unit) := by
 simp only [← wrapA_i64]
 kernel_rfl
theorem w_92 (s0_0 : List Int) (s0_1 : Int) (k : AV tau → Mem tau → Option Unit) : fnA E_92 C_92 D_92 Tryd.f92 B_92 [.ptr 0 0] ⟨[some (98, [.sl 5 s0_0, .int .i64 s0_1])], []⟩ k = (callX (fun n => spec_l15Rd_pick.f n s0_0 s0_1 (3 : Int)) fun t0 => brA (decide (t0.1 = (0 : Int))) (callX (fun n => spec_l15Rd_pick.f n s0_0 t0.2 (3 : Int)) fun t1 => callX (fun n => spec_l15Rd_pick.f n s0_0 t1.2 (3 : Int)) fun t2 => callX (fun n => spec_l15Rd_pick.f n s0_0 t2.2 (3 : Int)) fun t3 => k (.own 0 0) ⟨[some (98, [.sl 5 s0_0, .int .i64 t3.2])], [some ⟨60, ([(⟨(1 : Int), (0 : Int), t1.1, (0 : Int)⟩ : S60), (⟨(3 : Int), (1 : Int), (0 : Int), (wrap64 ((1 : Int) + t3.1))⟩ : S60), (⟨(4 : Int), (0 : Int), (1 : Int), (0 : Int)⟩ : S60), (⟨(2 : Int), t2.1, (0 : Int), (0 : Int)⟩ : S60)] : List S60), 0⟩]⟩) (callX (fun n => spec_l15Rd_pick.f n s0_0 t0.2 (8 : Int)) fun t4 => LP_92_0 k t4.1 s0_0 t4.2 ([] : List S60)) : Option Unit) := by
 simp only [← wrapA_i64]
 kernel_rfl
def S_92_0 (N : Nat) : Prop := ∀ (k : AV tau → Mem tau → Option Unit) (x0 : Int) (x1 : (List Int)) (x2 : Int) (x3 : (List S60)) (r : (List (S60)) × Int), spec_l2Prog.l0 N (x3) (x0) (x1) (x2) = some r → k (.own 0 0) ⟨[some (98, [.sl 5 ((x1)), .int .i64 (r.2)])], [some ⟨60, r.1, 0⟩]⟩ = some () → LP_92_0 k x0 x1 x2 x3 = some ()
theorem L_92 (N : Nat) : S_92_0 N := by
 induction N using Nat.strongRecOn with | _ N0 ih =>
 skip
 intro k x0 x1 x2 x3 r h hk
 rcases N0 with _ | N
 · cases h
 first | rw [spec_l2Prog.l0] at h | simp only [spec_l2Prog.l0] at h | (unfold spec_l2Prog.l0 at h; dsimp only at h)
 refine loop_fold mC_92 mD_92 ?_
 refine (w_92_0 k x0 x1 x2 x3).trans ?_
 refine br_eti h rfl (fun c19 h => ?_) (fun c19 h => ?_)
 ·cases h; exact hk
 refine call_h N h (fun t5 e20 h => ?_)
 refine br_g h (by first | rfl | exact dect | exact (congrArg not dect) | (simp; done) | (simp [beqI]; done) | (simp; omega)) (fun c21 h => ?_)
 exact (ih N (by omega)) _ _ _ _ _ _ h hk
theorem okc_92 (args : List (AV tau)) (m : Mem tau) (κ : AV tau → Mem tau → Option Unit) (hh : c_92 args m κ = some ()) : ∃ av m1, κ av m1 = some () ∧ ToldA Tryd.prog TT (pnT 92) 92 args m av m1 := by
 obtain ⟨bx_, rw_⟩ := m
 unfold c_92 at hh
 simp only at hh
 split at hh
 case h_2 => cases hh
 rename_i p0 t0_ c0_0 c0_1
 obtain ⟨u22, hx0, hh0⟩ := bO_some hh
 obtain ⟨u23, hx1, hh1⟩ := bO_some hh0
 obtain ⟨s0_0, hx2, hh2⟩ := bO_some hh1
 obtain ⟨s0_1, hx3, hh3⟩ := bO_some hh2
 have ex0 := asPtr_some hx0
 have ex1 := asT_some hx1
 have ex2 := asSl_some hx2
 have ex3 := asI_some hx3
 subst ex0 ex1 ex2 ex3
 obtain ⟨N, t, h, hκ⟩ := callX_some hh3
 refine ⟨_, _, hκ, told_of_run pq okC_92 (fun _ _ _ => drawA_ok pq okC_92 hmix) (E := E_92) (fn := Tryd.f92) (body := B_92) (by kernel_rfl) (by kernel_rfl) (by kernel_rfl) (by rfl) (by exact Nat.le_of_ble_eq_true rfl) (fun k hk => ?_)⟩
 refine (w_92 s0_0 s0_1 k).trans ?_
 replace h : spec_l2Prog.f N s0_0 s0_1 = some t := h
 unfold spec_l2Prog.f at h
 refine call_h N h (fun t0 e24 h => ?_)
 refine br_eti h rfl (fun c25 h => ?_) (fun c25 h => ?_)
 ·refine call_h N h (fun t4 e26 h => ?_)
  exact (L_92 N) _ _ _ _ _ _ h hk
 refine call_h N h (fun t1 e27 h => ?_)
 refine call_h N h (fun t2 e28 h => ?_)
 refine call_h N h (fun t3 e29 h => ?_)
 cases h; exact hk
noncomputable def C_71 : Ctr tau Unit := ctrS 92 c_92 C_92
noncomputable def D_71 : Drw tau := drawA E_71 C_71
theorem okC_71 : CtrOk Tryd.prog TT pnT C_71 := ctrS_ok okC_92 okc_92
theorem mC_71 : CtrMono C_71 := ctrS_mono mC_92 mc_92
theorem mD_71 : DrMono D_71 := drawA_mono mC_71
noncomputable def B_71 : Code := Tryd.f71.body.getD .skip
theorem mc_71 (args : List (AV tau)) (m : Mem tau) (k k' : AV tau → Mem tau → Option Unit) (hk : ∀ av m, k av m = some () → k' av m = some ()) (h : c_71 args m k = some ()) : c_71 args m k' = some () := by
 unfold c_71 at h ⊢
 split at h
 · repeat' first | exact callX_mono (fun _ h => hk _ _ h) h | refine bO_mono (fun _ h => ?_) h
 · cases h
noncomputable def K_71_0 (k : AV tau → Mem tau → Option Unit) : Kon tau := (kBlock 1 (kBlock 0 (kS E_71 C_71 D_71 (codeP B_71 [1, 1, 1, 1, 1]) (kEnd E_71 Tryd.f71 k))))
def st_71_0 (x0 : Int) (x1 : (List Int)) (x2 : Int) (x3 : (List S60)) : St tau := ⟨tmL 57 0 [(3, .own 0 0), (4, .int .i64 x0)], ⟨[some (98, [.sl 5 x1, .int .i64 x2])], [some ⟨60, x3, 0⟩]⟩⟩
noncomputable def LP_71_0 (k : AV tau → Mem tau → Option Unit) (x0 : Int) (x1 : (List Int)) (x2 : Int) (x3 : (List S60)) : Option Unit := loopA E_71 (codeA E_71 C_71 D_71 (codeP B_71 [1, 1, 1, 1, 0, 1, 0, 1, 1, 1, 1, 1, 1, 1, 0, 0, 0])) (codeP B_71 [1, 1, 1, 1, 0, 1, 0, 1, 1, 1, 1, 1, 1, 1, 0, 0, 0]) (K_71_0 k) (st_71_0 x0 x1 x2 x3)
theorem w_71_0 (k : AV tau → Mem tau → Option Unit) (x0 : Int) (x1 : (List Int)) (x2 : Int) (x3 : (List S60)) : codeA E_71 C_71 D_71 (codeP B_71 [1, 1, 1, 1, 0, 1, 0, 1, 1, 1, 1, 1, 1, 1, 0, 0, 0]) (kL E_71 C_71 D_71 (codeP B_71 [1, 1, 1, 1, 0, 1, 0, 1, 1, 1, 1, 1, 1, 1, 0, 0, 0]) (K_71_0 k)) (st_71_0 x0 x1 x2 x3) = (brA (decide (((x3.length : Nat) : Int) < (11 : Int))) (brA (decide ((0 : Int) ≤ x0)) (brA (decide (x0 < ((x3.length : Nat) : Int))) (brA (decide ((x3.length + 1) ≤ 4398046511104)) (LP_71_0 k x0 x1 x2 (x3 ++ ([(⟨(rd_T60 x3 x0).f0, (rd_T60 x3 x0).f1, (rd_T60 x3 x0).f2, (rd_T60 x3 x0).f3⟩ : S60)] : List S60))) (none)) (none)) (none)) (k (.own 0 0) ⟨[some (98, [.sl 5 x1, .int .i64 x2])], [some ⟨60, x3, 0⟩]⟩) : Option Unit) := by kernel_rfl
theorem w_71 (s0_0 : List Int) (s0_1 : Int) (k : AV tau → Mem tau → Option Unit) : fnA E_71 C_71 D_71 Tryd.f71 B_71 [.ptr 0 0] ⟨[some (98, [.sl 5 s0_0, .int .i64 s0_1])], []⟩ k = (callX (fun n => spec_l2Prog.f n s0_0 s0_1) fun t0 => brA (decide (((t0.1.length : Nat) : Int) = (0 : Int))) (k (.own 0 0) ⟨[some (98, [.sl 5 s0_0, .int .i64 t0.2])], [some ⟨60, t0.1, 0⟩]⟩) (callX (fun n => spec_l15Rd_pick.f n s0_0 t0.2 ((t0.1.length : Nat) : Int)) fun t1 => callX (fun n => spec_l15Rd_pick.f n s0_0 t1.2 (40 : Int)) fun t2 => brA (decide (t2.1 = (0 : Int))) (callX (fun n => spec_l15Rd_num.f n s0_0 t2.2 ([(0 : Int), (8 : Int)] : List Int)) fun t3 => brA (decide ((0 : Int) ≤ t1.1)) (brA (decide (t1.1 < ((t0.1.length : Nat) : Int))) (k (.own 0 0) ⟨[some (98, [.sl 5 s0_0, .int .i64 t3.2])], [some ⟨60, (List.set t0.1 (Int.toNat t1.1) (⟨t3.1, (rd_T60 t0.1 t1.1).f1, (rd_T60 t0.1 t1.1).f2, (rd_T60 t0.1 t1.1).f3⟩ : S60)), 0⟩]⟩) (none)) (none)) (brA (decide (t2.1 = (1 : Int))) (callX (fun n => spec_l15Rd_num.f n s0_0 t2.2 ([(-(1 : Int)), (4 : Int)] : List Int)) fun t4 => brA (decide ((0 : Int) ≤ t1.1)) (brA (decide (t1.1 < ((t0.1.length : Nat) : Int))) (k (.own 0 0) ⟨[some (98, [.sl 5 s0_0, .int .i64 t4.2])], [some ⟨60, (List.set t0.1 (Int.toNat t1.1) (⟨(rd_T60 t0.1 t1.1).f0, t4.1, (rd_T60 t0.1 t1.1).f2, (rd_T60 t0.1 t1.1).f3⟩ : S60)), 0⟩]⟩) (none)) (none)) (brA (decide (t2.1 = (2 : Int))) (callX (fun n => spec_l15Rd_num.f n s0_0 t2.2 ([(-(1 : Int)), (11 : Int), (2000000 : Int)] : List Int)) fun t5 => brA (decide ((0 : Int) ≤ t1.1)) (brA (decide (t1.1 < ((t0.1.length : Nat) : Int))) (k (.own 0 0) ⟨[some (98, [.sl 5 s0_0, .int .i64 t5.2])], [some ⟨60, (List.set t0.1 (Int.toNat t1.1) (⟨(rd_T60 t0.1 t1.1).f0, (rd_T60 t0.1 t1.1).f1, (rd_T60 t0.1 t1.1).f2, t5.1⟩ : S60)), 0⟩]⟩) (none)) (none)) (brA (decide (t2.1 = (3 : Int))) (LP_71_0 k t1.1 s0_0 t2.2 t0.1) (k (.own 0 0) ⟨[some (98, [.sl 5 s0_0, .int .i64 t2.2])], [some ⟨60, t0.1, 0⟩]⟩))))) : Option Unit) := by kernel_rfl
def S_71_0 (N : Nat) : Prop := ∀ (k : AV tau → Mem tau → Option Unit) (x0 : Int) (x1 : (List Int)) (x2 : Int) (x3 : (List S60)) (r : (List (S60)) × Int), spec_l2Bent.l0 N (x3) (x0) (x1) (x2) = some r → k (.own 0 0) ⟨[some (98, [.sl 5 ((x1)), .int .i64 (r.2)])], [some ⟨60, r.1, 0⟩]⟩ = some () → LP_71_0 k x0 x1 x2 x3 = some ()
theorem L_71 (N : Nat) : S_71_0 N := by
 induction N using Nat.strongRecOn with | _ N0 ih =>
 skip
 intro k x0 x1 x2 x3 r h hk
 rcases N0 with _ | N
 · cases h
 first | rw [spec_l2Bent.l0] at h | simp only [spec_l2Bent.l0] at h | (unfold spec_l2Bent.l0 at h; dsimp only at h)
 refine loop_fold mC_71 mD_71 ?_
 refine (w_71_0 k x0 x1 x2 x3).trans ?_
 refine br_eti h rfl (fun c43 h => ?_) (fun c43 h => ?_)
 ·cases h; exact hk
 refine br_g h rfl (fun c44 h => ?_)
 refine br_g h rfl (fun c45 h => ?_)
 refine br_g h (by first | rfl | exact dect | exact (congrArg not dect) | (simp; done) | (simp [beqI]; done) | (simp; omega)) (fun c46 h => ?_)
 exact (ih N (by omega)) _ _ _ _ _ _ h hk
theorem okc_71 (args : List (AV tau)) (m : Mem tau) (κ : AV tau → Mem tau → Option Unit) (hh : c_71 args m κ = some ()) : ∃ av m1, κ av m1 = some () ∧ ToldA Tryd.prog TT (pnT 71) 71 args m av m1 := by
 obtain ⟨bx_, rw_⟩ := m
 unfold c_71 at hh
 simp only at hh
 split at hh
 case h_2 => cases hh
 rename_i p0 t0_ c0_0 c0_1
 obtain ⟨u47, hx0, hh0⟩ := bO_some hh
 obtain ⟨u48, hx1, hh1⟩ := bO_some hh0
 obtain ⟨s0_0, hx2, hh2⟩ := bO_some hh1
 obtain ⟨s0_1, hx3, hh3⟩ := bO_some hh2
 have ex0 := asPtr_some hx0
 have ex1 := asT_some hx1
 have ex2 := asSl_some hx2
 have ex3 := asI_some hx3
 subst ex0 ex1 ex2 ex3
 obtain ⟨N, t, h, hκ⟩ := callX_some hh3
 refine ⟨_, _, hκ, told_of_run pq okC_71 (fun _ _ _ => drawA_ok pq okC_71 hmix) (E := E_71) (fn := Tryd.f71) (body := B_71) (by kernel_rfl) (by kernel_rfl) (by kernel_rfl) (by rfl) (by exact Nat.le_of_ble_eq_true rfl) (fun k hk => ?_)⟩
 refine (w_71 s0_0 s0_1 k).trans ?_
 replace h : spec_l2Bent.f N s0_0 s0_1 = some t := h
 unfold spec_l2Bent.f at h
 refine call_h N h (fun t0 e49 h => ?_)
 refine br_ite h rfl (fun c50 h => ?_) (fun c50 h => ?_)
 ·cases h; exact hk
 refine call_h N h (fun t1 e51 h => ?_)
 refine call_h N h (fun t2 e52 h => ?_)
 refine br_ite h rfl (fun c53 h => ?_) (fun c53 h => ?_)
 ·refine call_h N h (fun t3 e54 h => ?_)
  refine br_g h rfl (fun c55 h => ?_)
  refine br_g h rfl (fun c56 h => ?_)
  cases h; exact hk
 refine br_ite h rfl (fun c57 h => ?_) (fun c57 h => ?_)
 ·refine call_h N h (fun t4 e58 h => ?_)
  refine br_g h rfl (fun c59 h => ?_)
  refine br_g h rfl (fun c60 h => ?_)
  cases h; exact hk
 refine br_eti h rfl (fun c61 h => ?_) (fun c61 h => ?_)
 ·refine br_ite h rfl (fun c62 h => ?_) (fun c62 h => ?_)
  ·exact (L_71 N) _ _ _ _ _ _ h hk
  cases h; exact hk
 refine call_h N h (fun t5 e63 h => ?_)
 refine br_g h rfl (fun c64 h => ?_)
 refine br_g h rfl (fun c65 h => ?_)
 cases h; exact hk
noncomputable def C_26 : Ctr tau Unit := ctrS 71 c_71 C_71
noncomputable def D_26 : Drw tau := drawA E_26 C_26
theorem okC_26 : CtrOk Tryd.prog TT pnT C_26 := ctrS_ok okC_71 okc_71
theorem mC_26 : CtrMono C_26 := ctrS_mono mC_71 mc_71
theorem mD_26 : DrMono D_26 := drawA_mono mC_26
noncomputable def B_26 : Code := Tryd.f26.body.getD .skip
theorem mc_26 (args : List (AV tau)) (m : Mem tau) (k k' : AV tau → Mem tau → Option Unit) (hk : ∀ av m, k av m = some () → k' av m = some ()) (h : c_26 args m k = some ()) : c_26 args m k' = some () := by
 unfold c_26 at h ⊢
 split at h
 · repeat' first | exact callX_mono (fun _ h => hk _ _ h) h | refine bO_mono (fun _ h => ?_) h
 · cases h
theorem w_26 (l0 : List Int) (k : AV tau → Mem tau → Option Unit) : fnA E_26 C_26 D_26 Tryd.f26 B_26 [.sl 5 l0] ⟨[], []⟩ k = (callX (fun n => spec_l15Open.f l0) fun t0 => callX (fun n => spec_l2Bent.f n t0.1 t0.2) fun t1 => k (.own 0 0) ⟨[], [some ⟨60, t1.1, 0⟩]⟩ : Option Unit) := by kernel_rfl
theorem okc_26 (args : List (AV tau)) (m : Mem tau) (κ : AV tau → Mem tau → Option Unit) (hh : c_26 args m κ = some ()) : ∃ av m1, κ av m1 = some () ∧ ToldA Tryd.prog TT (pnT 26) 26 args m av m1 := by
 obtain ⟨bx_, rw_⟩ := m
 unfold c_26 at hh
 simp only at hh
 split at hh
 case h_2 => cases hh
 rename_i b0
 obtain ⟨l0, hx0, hh0⟩ := bO_some hh
 have ex0 := asSl_some hx0
 subst ex0
 obtain ⟨N, t, h, hκ⟩ := callX_some hh0
 refine ⟨_, _, hκ, told_of_run pq okC_26 (fun _ _ _ => drawA_ok pq okC_26 hmix) (E := E_26) (fn := Tryd.f26) (body := B_26) (by kernel_rfl) (by kernel_rfl) (by kernel_rfl) (by rfl) (by exact Nat.le_of_ble_eq_true rfl) (fun k hk => ?_)⟩
 refine (w_26 l0 k).trans ?_
 replace h : spec_DrawProgText.f N l0 = some t := h
 unfold spec_DrawProgText.f at h
 refine call_h 0 h (fun t0 e3 h => ?_)
 refine call_h N h (fun t1 e4 h => ?_)
 cases h; exact hk
noncomputable def C_76 : Ctr tau Unit := ctrS 26 c_26 C_26
noncomputable def D_76 : Drw tau := drawA E_76 C_76
theorem okC_76 : CtrOk Tryd.prog TT pnT C_76 := ctrS_ok okC_26 okc_26
theorem mC_76 : CtrMono C_76 := ctrS_mono mC_26 mc_26
theorem mD_76 : DrMono D_76 := drawA_mono mC_76
noncomputable def B_76 : Code := Tryd.f76.body.getD .skip
theorem mc_76 (args : List (AV tau)) (m : Mem tau) (k k' : AV tau → Mem tau → Option Unit) (hk : ∀ av m, k av m = some () → k' av m = some ()) (h : c_76 args m k = some ()) : c_76 args m k' = some () := by
 unfold c_76 at h ⊢
 split at h
 · repeat' first | exact callX_mono (fun _ h => hk _ _ h) h | refine bO_mono (fun _ h => ?_) h
 · cases h
noncomputable def K_76_0 (k : AV tau → Mem tau → Option Unit) : Kon tau := (kBlock 0 (kS E_76 C_76 D_76 (codeP B_76 [1, 1, 1]) (kEnd E_76 Tryd.f76 k)))
def st_76_0 (x0 : (List S60)) (x1 : (List S60)) (x2 : Int) (x3 : Int) : St tau := ⟨tmL 26 0 [(0, .sl 60 x0), (1, .sl 60 x1), (12, .int .i64 x2), (13, .int .i64 x3)], ⟨[], []⟩⟩
noncomputable def LP_76_0 (k : AV tau → Mem tau → Option Unit) (x0 : (List S60)) (x1 : (List S60)) (x2 : Int) (x3 : Int) : Option Unit := loopA E_76 (codeA E_76 C_76 D_76 (codeP B_76 [1, 1, 0, 1, 0, 0])) (codeP B_76 [1, 1, 0, 1, 0, 0]) (K_76_0 k) (st_76_0 x0 x1 x2 x3)
theorem w_76_0 (k : AV tau → Mem tau → Option Unit) (x0 : (List S60)) (x1 : (List S60)) (x2 : Int) (x3 : Int) : codeA E_76 C_76 D_76 (codeP B_76 [1, 1, 0, 1, 0, 0]) (kL E_76 C_76 D_76 (codeP B_76 [1, 1, 0, 1, 0, 0]) (K_76_0 k)) (st_76_0 x0 x1 x2 x3) = (brA (decide (x3 < x2)) (brA (decide ((0 : Int) ≤ x3)) (brA (decide (x3 < ((x0.length : Nat) : Int))) (brA (decide ((0 : Int) ≤ x3)) (brA (decide (x3 < ((x1.length : Nat) : Int))) (brA (!(((rd_T60 x0 x3).f0 == (rd_T60 x1 x3).f0) && (((rd_T60 x0 x3).f1 == (rd_T60 x1 x3).f1) && (((rd_T60 x0 x3).f2 == (rd_T60 x1 x3).f2) && ((rd_T60 x0 x3).f3 == (rd_T60 x1 x3).f3))))) (k (.bool false) ⟨[], []⟩) (LP_76_0 k x0 x1 x2 (wrap64 (x3 + (1 : Int))))) (none)) (none)) (none)) (none)) (k (.bool true) ⟨[], []⟩) : Option Unit) := by
 simp only [← wrapA_i64]
 kernel_rfl
theorem w_76 (l0 : List S60) (l1 : List S60) (k : AV tau → Mem tau → Option Unit) : fnA E_76 C_76 D_76 Tryd.f76 B_76 [.sl 60 l0, .sl 60 l1] ⟨[], []⟩ k = (brA (!(decide (((l0.length : Nat) : Int) = ((l1.length : Nat) : Int)))) (k (.bool false) ⟨[], []⟩) (LP_76_0 k l0 l1 ((l0.length : Nat) : Int) (0 : Int)) : Option Unit) := by kernel_rfl
def S_76_0 (N : Nat) : Prop := ∀ (k : AV tau → Mem tau → Option Unit) (x0 : (List S60)) (x1 : (List S60)) (x2 : Int) (x3 : Int) (r : Bool), impl_same_impl_Ins.l0 N (x0) (x1) (x2) (x3) = some r → k (.bool (r)) ⟨[], []⟩ = some () → LP_76_0 k x0 x1 x2 x3 = some ()
theorem L_76 (N : Nat) : S_76_0 N := by
 induction N using Nat.strongRecOn with | _ N0 ih =>
 skip
 intro k x0 x1 x2 x3 r h hk
 rcases N0 with _ | N
 · cases h
 first | rw [impl_same_impl_Ins.l0] at h | simp only [impl_same_impl_Ins.l0] at h | (unfold impl_same_impl_Ins.l0 at h; dsimp only at h)
 refine loop_fold mC_76 mD_76 ?_
 refine (w_76_0 k x0 x1 x2 x3).trans ?_
 refine br_eti h rfl (fun c13 h => ?_) (fun c13 h => ?_)
 ·cases h; exact hk
 refine br_g h rfl (fun c14 h => ?_)
 refine br_g h rfl (fun c15 h => ?_)
 refine br_t (by first | (simp [c14]; done) | (simp; omega) | (simp only [List.length_append, List.length_cons, List.length_nil, List.length_take, List.length_drop] at c15 ⊢; simp; omega) | (simp only [List.length_append, List.length_cons, List.length_nil, List.length_take, List.length_drop] at c15; simp; omega) | (simp_all; done)) ?_
 refine br_g h rfl (fun c16 h => ?_)
 refine br_ite h (by first | rfl | exact dect | exact (congrArg not dect) | (simp; done) | (simp [beqI]; done) | (simp; omega)) (fun c17 h => ?_) (fun c17 h => ?_)
 ·cases h; exact hk
 exact (ih N (by omega)) _ _ _ _ _ _ h hk
theorem okc_76 (args : List (AV tau)) (m : Mem tau) (κ : AV tau → Mem tau → Option Unit) (hh : c_76 args m κ = some ()) : ∃ av m1, κ av m1 = some () ∧ ToldA Tryd.prog TT (pnT 76) 76 args m av m1 := by
 obtain ⟨bx_, rw_⟩ := m
 unfold c_76 at hh
 simp only at hh
 split at hh
 case h_2 => cases hh
 rename_i b0 b1
 obtain ⟨l0, hx0, hh0⟩ := bO_some hh
 obtain ⟨l1, hx1, hh1⟩ := bO_some hh0
 have ex0 := asSl_some hx0
 have ex1 := asSl_some hx1
 subst ex0 ex1
 obtain ⟨N, t, h, hκ⟩ := callX_some hh1
 refine ⟨_, _, hκ, told_of_run pq okC_76 (fun _ _ _ => drawA_ok pq okC_76 hmix) (E := E_76) (fn := Tryd.f76) (body := B_76) (by kernel_rfl) (by kernel_rfl) (by kernel_rfl) (by rfl) (by exact Nat.le_of_ble_eq_true rfl) (fun k hk => ?_)⟩
 refine (w_76 l0 l1 k).trans ?_
 replace h : impl_same_impl_Ins.f N l0 l1 = some t := h
 unfold impl_same_impl_Ins.f at h
 refine br_etn h rfl (fun c18 h => ?_) (fun c18 h => ?_)
 ·cases h; exact hk
 exact (L_76 N) _ _ _ _ _ _ h hk
noncomputable def C_31 : Ctr tau Unit := ctrS 76 c_76 C_76
noncomputable def D_31 : Drw tau := drawA E_31 C_31
theorem okC_31 : CtrOk Tryd.prog TT pnT C_31 := ctrS_ok okC_76 okc_76
theorem mC_31 : CtrMono C_31 := ctrS_mono mC_76 mc_76
theorem mD_31 : DrMono D_31 := drawA_mono mC_31
noncomputable def B_31 : Code := Tryd.f31.body.getD .skip
theorem mc_31 (args : List (AV tau)) (m : Mem tau) (k k' : AV tau → Mem tau → Option Unit) (hk : ∀ av m, k av m = some () → k' av m = some ()) (h : c_31 args m k = some ()) : c_31 args m k' = some () := by
 unfold c_31 at h ⊢
 split at h
 · repeat' first | exact callX_mono (fun _ h => hk _ _ h) h | refine bO_mono (fun _ h => ?_) h
 · cases h
theorem w_31 (l0 : List S60) (l1 : List S60) (k : AV tau → Mem tau → Option Unit) : fnA E_31 C_31 D_31 Tryd.f31 B_31 [.sl 60 l0, .sl 60 l1] ⟨[], []⟩ k = (callX (fun n => impl_same_impl_Ins.f n l0 l1) fun t0 => k (.bool t0) ⟨[], []⟩ : Option Unit) := by kernel_rfl
theorem okc_31 (args : List (AV tau)) (m : Mem tau) (κ : AV tau → Mem tau → Option Unit) (hh : c_31 args m κ = some ()) : ∃ av m1, κ av m1 = some () ∧ ToldA Tryd.prog TT (pnT 31) 31 args m av m1 := by
 obtain ⟨bx_, rw_⟩ := m
 unfold c_31 at hh
 simp only at hh
 split at hh
 case h_2 => cases hh
 rename_i b0 b1
 obtain ⟨l0, hx0, hh0⟩ := bO_some hh
 obtain ⟨l1, hx1, hh1⟩ := bO_some hh0
 have ex0 := asSl_some hx0
 have ex1 := asSl_some hx1
 subst ex0 ex1
 obtain ⟨N, t, h, hκ⟩ := callX_some hh1
 refine ⟨_, _, hκ, told_of_run pq okC_31 (fun _ _ _ => drawA_ok pq okC_31 hmix) (E := E_31) (fn := Tryd.f31) (body := B_31) (by kernel_rfl) (by kernel_rfl) (by kernel_rfl) (by rfl) (by exact Nat.le_of_ble_eq_true rfl) (fun k hk => ?_)⟩
 refine (w_31 l0 l1 k).trans ?_
 replace h : impl_ProgSame.f N l0 l1 = some t := h
 unfold impl_ProgSame.f at h
 refine call_h N h (fun t0 e2 h => ?_)
 cases h; exact hk
noncomputable def C_97 : Ctr tau Unit := ctrS 31 c_31 C_31
noncomputable def D_97 : Drw tau := drawA E_97 C_97
theorem okC_97 : CtrOk Tryd.prog TT pnT C_97 := ctrS_ok okC_31 okc_31
theorem mC_97 : CtrMono C_97 := ctrS_mono mC_31 mc_31
theorem mD_97 : DrMono D_97 := drawA_mono mC_97
noncomputable def B_97 : Code := Tryd.f97.body.getD .skip
theorem mc_97 (args : List (AV tau)) (m : Mem tau) (k k' : AV tau → Mem tau → Option Unit) (hk : ∀ av m, k av m = some () → k' av m = some ()) (h : c_97 args m k = some ()) : c_97 args m k' = some () := by
 unfold c_97 at h ⊢
 split at h
 · repeat' first | exact callX_mono (fun _ h => hk _ _ h) h | refine bO_mono (fun _ h => ?_) h
 · cases h
theorem w_97 (l0 : List Int) (k : AV tau → Mem tau → Option Unit) : fnA E_97 C_97 D_97 Tryd.f97 B_97 [.sl 3 l0] ⟨[], []⟩ k = (brA (decide (((l0.length : Nat) : Int) = (0 : Int))) (k (.own 0 0) ⟨[], [some ⟨3, ([] : List Int), 0⟩]⟩) (brA (decide ((Int.toNat ((l0.length : Nat) : Int)) ≤ 35184372088832)) (k (.own 0 0) ⟨[], [some ⟨3, ((List.take ((List.replicate (Int.toNat ((l0.length : Nat) : Int)) (0 : Int)).length) l0) ++ (List.drop l0.length (List.replicate (Int.toNat ((l0.length : Nat) : Int)) (0 : Int)))), 0⟩]⟩) (none)) : Option Unit) := by kernel_rfl
theorem okc_97 (args : List (AV tau)) (m : Mem tau) (κ : AV tau → Mem tau → Option Unit) (hh : c_97 args m κ = some ()) : ∃ av m1, κ av m1 = some () ∧ ToldA Tryd.prog TT (pnT 97) 97 args m av m1 := by
 obtain ⟨bx_, rw_⟩ := m
 unfold c_97 at hh
 simp only at hh
 split at hh
 case h_2 => cases hh
 rename_i b0
 obtain ⟨l0, hx0, hh0⟩ := bO_some hh
 have ex0 := asSl_some hx0
 subst ex0
 obtain ⟨N, t, h, hκ⟩ := callX_some hh0
 refine ⟨_, _, hκ, told_of_run pq okC_97 (fun _ _ _ => drawA_ok pq okC_97 hmix) (E := E_97) (fn := Tryd.f97) (body := B_97) (by kernel_rfl) (by kernel_rfl) (by kernel_rfl) (by rfl) (by exact Nat.le_of_ble_eq_true rfl) (fun k hk => ?_)⟩
 refine (w_97 l0 k).trans ?_
 replace h : impl_copied_int.f l0 = some t := h
 unfold impl_copied_int.f at h
 refine ite_x h (fun c1 h => ?_) (fun _ h => by cases h)
 cases h
 exact copied_of (α := Int) l0 _ _ (k := fun q : List Int => k (.own 0 0) ⟨[], [some ⟨3, q, 0⟩]⟩) c1 hk
noncomputable def C_77 : Ctr tau Unit := ctrS 97 c_97 C_97
noncomputable def D_77 : Drw tau := drawA E_77 C_77
theorem okC_77 : CtrOk Tryd.prog TT pnT C_77 := ctrS_ok okC_97 okc_97
theorem mC_77 : CtrMono C_77 := ctrS_mono mC_97 mc_97
theorem mD_77 : DrMono D_77 := drawA_mono mC_77
noncomputable def B_77 : Code := Tryd.f77.body.getD .skip
theorem mc_77 (args : List (AV tau)) (m : Mem tau) (k k' : AV tau → Mem tau → Option Unit) (hk : ∀ av m, k av m = some () → k' av m = some ()) (h : c_77 args m k = some ()) : c_77 args m k' = some () := by
 unfold c_77 at h ⊢
 split at h
 · repeat' first | exact callX_mono (fun _ h => hk _ _ h) h | refine bO_mono (fun _ h => ?_) h
 · cases h
noncomputable def K_77_0 (k : AV tau → Mem tau → Option Unit) : Kon tau := (kBlock 0 (kS E_77 C_77 D_77 (codeP B_77 [1, 1, 1]) (kEnd E_77 Tryd.f77 k)))
def st_77_0 (x0 : Bool) (x1 : Bool) (x2 : Bool) (x3 : Bool) (x4 : Int) (x5 : (List Int)) : St tau := ⟨tmL 19 0 [(3, .own 0 0), (6, .agg [.bool x0, .bool x1, .bool x2, .bool x3]), (7, .int .i64 x4)], ⟨[], [some ⟨3, x5, 0⟩]⟩⟩
noncomputable def LP_77_0 (k : AV tau → Mem tau → Option Unit) (x0 : Bool) (x1 : Bool) (x2 : Bool) (x3 : Bool) (x4 : Int) (x5 : (List Int)) : Option Unit := loopA E_77 (codeA E_77 C_77 D_77 (codeP B_77 [1, 1, 0, 1, 0, 0])) (codeP B_77 [1, 1, 0, 1, 0, 0]) (K_77_0 k) (st_77_0 x0 x1 x2 x3 x4 x5)
theorem w_77_0 (k : AV tau → Mem tau → Option Unit) (x0 : Bool) (x1 : Bool) (x2 : Bool) (x3 : Bool) (x4 : Int) (x5 : (List Int)) : codeA E_77 C_77 D_77 (codeP B_77 [1, 1, 0, 1, 0, 0]) (kL E_77 C_77 D_77 (codeP B_77 [1, 1, 0, 1, 0, 0]) (K_77_0 k)) (st_77_0 x0 x1 x2 x3 x4 x5) = (brA (decide (x4 < (4 : Int))) (brA (decide ((0 : Int) ≤ x4)) (brA (decide (x4 < (4 : Int))) (brA (rdOf false ([x0, x1, x2, x3] : List Bool) x4) (brA (decide ((x5.length + 1) ≤ 17592186044416)) (LP_77_0 k x0 x1 x2 x3 (wrap64 (x4 + (1 : Int))) (x5 ++ ([x4] : List Int))) (none)) (LP_77_0 k x0 x1 x2 x3 (wrap64 (x4 + (1 : Int))) x5)) (none)) (none)) (callX (fun n => impl_copied_int.f x5) fun t0 => k (.own 0 0) ⟨[], [some ⟨3, t0, 0⟩]⟩) : Option Unit) := by
 simp only [← wrapA_i64]
 kernel_rfl
theorem w_77 (a0_0 : Bool) (a0_1 : Bool) (a0_2 : Bool) (a0_3 : Bool) (k : AV tau → Mem tau → Option Unit) : fnA E_77 C_77 D_77 Tryd.f77 B_77 [.agg [.bool a0_0, .bool a0_1, .bool a0_2, .bool a0_3]] ⟨[], []⟩ k = (LP_77_0 k a0_0 a0_1 a0_2 a0_3 (0 : Int) ([] : List Int) : Option Unit) := by kernel_rfl
def S_77_0 (N : Nat) : Prop := ∀ (k : AV tau → Mem tau → Option Unit) (x0 : Bool) (x1 : Bool) (x2 : Bool) (x3 : Bool) (x4 : Int) (x5 : (List Int)) (r : List Int), impl_boxesOf.l0 N (x5) (x4) (x0) (x1) (x2) (x3) = some r → k (.own 0 0) ⟨[], [some ⟨3, r, 0⟩]⟩ = some () → LP_77_0 k x0 x1 x2 x3 x4 x5 = some ()
theorem L_77 (N : Nat) : S_77_0 N := by
 induction N using Nat.strongRecOn with | _ N0 ih =>
 skip
 intro k x0 x1 x2 x3 x4 x5 r h hk
 rcases N0 with _ | N
 · cases h
 first | rw [impl_boxesOf.l0] at h | simp only [impl_boxesOf.l0] at h | (unfold impl_boxesOf.l0 at h; dsimp only at h)
 refine loop_fold mC_77 mD_77 ?_
 refine (w_77_0 k x0 x1 x2 x3 x4 x5).trans ?_
 refine br_eti h rfl (fun c11 h => ?_) (fun c11 h => ?_)
 ·refine call_h 0 h (fun t0 e12 h => ?_)
  cases h; exact hk
 refine br_g h rfl (fun c13 h => ?_)
 refine br_t (by first | (simp [c11]; done) | (simp; omega) | (simp_all; done)) ?_
 refine br_eti h dect (fun c14 h => ?_) (fun c14 h => ?_)
 ·exact (ih N (by omega)) _ _ _ _ _ _ _ _ h hk
 refine br_g h (by first | rfl | exact dect | exact (congrArg not dect) | (simp; done) | (simp [beqI]; done) | (simp; omega)) (fun c15 h => ?_)
 exact (ih N (by omega)) _ _ _ _ _ _ _ _ h hk
theorem okc_77 (args : List (AV tau)) (m : Mem tau) (κ : AV tau → Mem tau → Option Unit) (hh : c_77 args m κ = some ()) : ∃ av m1, κ av m1 = some () ∧ ToldA Tryd.prog TT (pnT 77) 77 args m av m1 := by
 obtain ⟨bx_, rw_⟩ := m
 unfold c_77 at hh
 simp only at hh
 split at hh
 case h_2 => cases hh
 rename_i b0 b1 b2 b3
 obtain ⟨a0_0, hx0, hh0⟩ := bO_some hh
 obtain ⟨a0_1, hx1, hh1⟩ := bO_some hh0
 obtain ⟨a0_2, hx2, hh2⟩ := bO_some hh1
 obtain ⟨a0_3, hx3, hh3⟩ := bO_some hh2
 have ex0 := asB_some hx0
 have ex1 := asB_some hx1
 have ex2 := asB_some hx2
 have ex3 := asB_some hx3
 subst ex0 ex1 ex2 ex3
 obtain ⟨N, t, h, hκ⟩ := callX_some hh3
 refine ⟨_, _, hκ, told_of_run pq okC_77 (fun _ _ _ => drawA_ok pq okC_77 hmix) (E := E_77) (fn := Tryd.f77) (body := B_77) (by kernel_rfl) (by kernel_rfl) (by kernel_rfl) (by rfl) (by exact Nat.le_of_ble_eq_true rfl) (fun k hk => ?_)⟩
 refine (w_77 a0_0 a0_1 a0_2 a0_3 k).trans ?_
 replace h : impl_boxesOf.f N a0_0 a0_1 a0_2 a0_3 = some t := h
 unfold impl_boxesOf.f at h
 exact (L_77 N) _ _ _ _ _ _ _ _ h hk
noncomputable def C_33 : Ctr tau Unit := ctrS 77 c_77 C_77
noncomputable def D_33 : Drw tau := drawA E_33 C_33
theorem okC_33 : CtrOk Tryd.prog TT pnT C_33 := ctrS_ok okC_77 okc_77
theorem mC_33 : CtrMono C_33 := ctrS_mono mC_77 mc_77
theorem mD_33 : DrMono D_33 := drawA_mono mC_33
noncomputable def B_33 : Code := Tryd.f33.body.getD .skip
theorem mc_33 (args : List (AV tau)) (m : Mem tau) (k k' : AV tau → Mem tau → Option Unit) (hk : ∀ av m, k av m = some () → k' av m = some ()) (h : c_33 args m k = some ()) : c_33 args m k' = some () := by
 unfold c_33 at h ⊢
 split at h
 · repeat' first | exact callX_mono (fun _ h => hk _ _ h) h | refine bO_mono (fun _ h => ?_) h
 · cases h
noncomputable def K_33_0 (k : AV tau → Mem tau → Option Unit) : Kon tau := (kBlock 0 (kS E_33 C_33 D_33 (codeP B_33 [1, 1, 1]) (kEnd E_33 Tryd.f33 k)))
def st_33_0 (x0 : (List S60)) (x1 : Int) (x2 : Int) (x3 : Bool) (x4 : Bool) (x5 : Bool) (x6 : Bool) : St tau := ⟨tmL 26 0 [(3, .ptr 0 0), (6, .sl 60 x0), (7, .int .i64 x1), (8, .int .i64 x2)], ⟨[some (86, [.bool x3, .bool x4, .bool x5, .bool x6])], []⟩⟩
noncomputable def LP_33_0 (k : AV tau → Mem tau → Option Unit) (x0 : (List S60)) (x1 : Int) (x2 : Int) (x3 : Bool) (x4 : Bool) (x5 : Bool) (x6 : Bool) : Option Unit := loopA E_33 (codeA E_33 C_33 D_33 (codeP B_33 [1, 1, 0, 1, 0, 0])) (codeP B_33 [1, 1, 0, 1, 0, 0]) (K_33_0 k) (st_33_0 x0 x1 x2 x3 x4 x5 x6)
theorem w_33_0 (k : AV tau → Mem tau → Option Unit) (x0 : (List S60)) (x1 : Int) (x2 : Int) (x3 : Bool) (x4 : Bool) (x5 : Bool) (x6 : Bool) : codeA E_33 C_33 D_33 (codeP B_33 [1, 1, 0, 1, 0, 0]) (kL E_33 C_33 D_33 (codeP B_33 [1, 1, 0, 1, 0, 0]) (K_33_0 k)) (st_33_0 x0 x1 x2 x3 x4 x5 x6) = (brA (decide (x2 < x1)) (brA (decide ((0 : Int) ≤ x2)) (brA (decide (x2 < ((x0.length : Nat) : Int))) (brA (decide ((rd_T60 x0 x2).f0 = (1 : Int))) (callX (fun n => impl_in.f ((rd_T60 x0 x2).f2) (0 : Int) (3 : Int)) fun t0 => brA t0 (brA (decide ((0 : Int) ≤ (rd_T60 x0 x2).f2)) (brA (decide ((rd_T60 x0 x2).f2 < (4 : Int))) (LP_33_0 k x0 x1 (wrap64 (x2 + (1 : Int))) (if (rd_T60 x0 x2).f2 = (0 : Int) then true else x3) (if (rd_T60 x0 x2).f2 = (1 : Int) then true else x4) (if (rd_T60 x0 x2).f2 = (2 : Int) then true else x5) (if (rd_T60 x0 x2).f2 = (3 : Int) then true else x6)) (none)) (none)) (LP_33_0 k x0 x1 (wrap64 (x2 + (1 : Int))) x3 x4 x5 x6)) (LP_33_0 k x0 x1 (wrap64 (x2 + (1 : Int))) x3 x4 x5 x6)) (none)) (none)) (callX (fun n => impl_boxesOf.f n x3 x4 x5 x6) fun t1 => k (.own 0 0) ⟨[], [some ⟨3, t1, 0⟩]⟩) : Option Unit) := by
 simp only [← wrapA_i64]
 kernel_rfl
theorem w_33 (l0 : List S60) (k : AV tau → Mem tau → Option Unit) : fnA E_33 C_33 D_33 Tryd.f33 B_33 [.sl 60 l0] ⟨[], []⟩ k = (LP_33_0 k l0 ((l0.length : Nat) : Int) (0 : Int) false false false false : Option Unit) := by kernel_rfl
def S_33_0 (N : Nat) : Prop := ∀ (k : AV tau → Mem tau → Option Unit) (x0 : (List S60)) (x1 : Int) (x2 : Int) (x3 : Bool) (x4 : Bool) (x5 : Bool) (x6 : Bool) (r : List Int), impl_ProgLoads.l0 N (x0) (x1) (x2) (x3) (x4) (x5) (x6) = some r → k (.own 0 0) ⟨[], [some ⟨3, r, 0⟩]⟩ = some () → LP_33_0 k x0 x1 x2 x3 x4 x5 x6 = some ()
theorem L_33 (N : Nat) : S_33_0 N := by
 induction N using Nat.strongRecOn with | _ N0 ih =>
 skip
 intro k x0 x1 x2 x3 x4 x5 x6 r h hk
 rcases N0 with _ | N
 · cases h
 first | rw [impl_ProgLoads.l0] at h | simp only [impl_ProgLoads.l0] at h | (unfold impl_ProgLoads.l0 at h; dsimp only at h)
 refine loop_fold mC_33 mD_33 ?_
 refine (w_33_0 k x0 x1 x2 x3 x4 x5 x6).trans ?_
 refine br_eti h rfl (fun c19 h => ?_) (fun c19 h => ?_)
 ·refine call_h N h (fun t1 e20 h => ?_)
  cases h; exact hk
 refine br_g h rfl (fun c21 h => ?_)
 refine br_g h rfl (fun c22 h => ?_)
 refine br_eti h rfl (fun c23 h => ?_) (fun c23 h => ?_)
 ·exact (ih N (by omega)) _ _ _ _ _ _ _ _ _ h hk
 refine call_h 0 h (fun t0 e24 h => ?_)
 refine br_eti h dect (fun c25 h => ?_) (fun c25 h => ?_)
 ·exact (ih N (by omega)) _ _ _ _ _ _ _ _ _ h hk
 refine br_g h rfl (fun c26 h => ?_)
 refine br_g h rfl (fun c27 h => ?_)
 exact (ih N (by omega)) _ _ _ _ _ _ _ _ _ h hk
theorem okc_33 (args : List (AV tau)) (m : Mem tau) (κ : AV tau → Mem tau → Option Unit) (hh : c_33 args m κ = some ()) : ∃ av m1, κ av m1 = some () ∧ ToldA Tryd.prog TT (pnT 33) 33 args m av m1 := by
 obtain ⟨bx_, rw_⟩ := m
 unfold c_33 at hh
 simp only at hh
 split at hh
 case h_2 => cases hh
 rename_i b0
 obtain ⟨l0, hx0, hh0⟩ := bO_some hh
 have ex0 := asSl_some hx0
 subst ex0
 obtain ⟨N, t, h, hκ⟩ := callX_some hh0
 refine ⟨_, _, hκ, told_of_run pq okC_33 (fun _ _ _ => drawA_ok pq okC_33 hmix) (E := E_33) (fn := Tryd.f33) (body := B_33) (by kernel_rfl) (by kernel_rfl) (by kernel_rfl) (by rfl) (by exact Nat.le_of_ble_eq_true rfl) (fun k hk => ?_)⟩
 refine (w_33 l0 k).trans ?_
 replace h : impl_ProgLoads.f N l0 = some t := h
 unfold impl_ProgLoads.f at h
 exact (L_33 N) _ _ _ _ _ _ _ _ _ h hk
noncomputable def C_34 : Ctr tau Unit := ctrS 33 c_33 C_33
noncomputable def D_34 : Drw tau := drawA E_34 C_34
theorem okC_34 : CtrOk Tryd.prog TT pnT C_34 := ctrS_ok okC_33 okc_33
theorem mC_34 : CtrMono C_34 := ctrS_mono mC_33 mc_33
theorem mD_34 : DrMono D_34 := drawA_mono mC_34
noncomputable def B_34 : Code := Tryd.f34.body.getD .skip
theorem mc_34 (args : List (AV tau)) (m : Mem tau) (k k' : AV tau → Mem tau → Option Unit) (hk : ∀ av m, k av m = some () → k' av m = some ()) (h : c_34 args m k = some ()) : c_34 args m k' = some () := by
 unfold c_34 at h ⊢
 split at h
 · repeat' first | exact callX_mono (fun _ h => hk _ _ h) h | refine bO_mono (fun _ h => ?_) h
 · cases h
noncomputable def K_34_0 (k : AV tau → Mem tau → Option Unit) : Kon tau := (kBlock 0 (kS E_34 C_34 D_34 (codeP B_34 [1, 1, 1]) (kEnd E_34 Tryd.f34 k)))
def st_34_0 (x0 : (List S60)) (x1 : Int) (x2 : Int) (x3 : Bool) (x4 : Bool) (x5 : Bool) (x6 : Bool) : St tau := ⟨tmL 26 0 [(3, .ptr 0 0), (6, .sl 60 x0), (7, .int .i64 x1), (8, .int .i64 x2)], ⟨[some (86, [.bool x3, .bool x4, .bool x5, .bool x6])], []⟩⟩
noncomputable def LP_34_0 (k : AV tau → Mem tau → Option Unit) (x0 : (List S60)) (x1 : Int) (x2 : Int) (x3 : Bool) (x4 : Bool) (x5 : Bool) (x6 : Bool) : Option Unit := loopA E_34 (codeA E_34 C_34 D_34 (codeP B_34 [1, 1, 0, 1, 0, 0])) (codeP B_34 [1, 1, 0, 1, 0, 0]) (K_34_0 k) (st_34_0 x0 x1 x2 x3 x4 x5 x6)
theorem w_34_0 (k : AV tau → Mem tau → Option Unit) (x0 : (List S60)) (x1 : Int) (x2 : Int) (x3 : Bool) (x4 : Bool) (x5 : Bool) (x6 : Bool) : codeA E_34 C_34 D_34 (codeP B_34 [1, 1, 0, 1, 0, 0]) (kL E_34 C_34 D_34 (codeP B_34 [1, 1, 0, 1, 0, 0]) (K_34_0 k)) (st_34_0 x0 x1 x2 x3 x4 x5 x6) = (brA (decide (x2 < x1)) (brA (decide ((0 : Int) ≤ x2)) (brA (decide (x2 < ((x0.length : Nat) : Int))) (brA (decide ((rd_T60 x0 x2).f0 = (2 : Int))) (callX (fun n => impl_in.f ((rd_T60 x0 x2).f1) (0 : Int) (3 : Int)) fun t0 => brA t0 (brA (decide ((0 : Int) ≤ (rd_T60 x0 x2).f1)) (brA (decide ((rd_T60 x0 x2).f1 < (4 : Int))) (LP_34_0 k x0 x1 (wrap64 (x2 + (1 : Int))) (if (rd_T60 x0 x2).f1 = (0 : Int) then true else x3) (if (rd_T60 x0 x2).f1 = (1 : Int) then true else x4) (if (rd_T60 x0 x2).f1 = (2 : Int) then true else x5) (if (rd_T60 x0 x2).f1 = (3 : Int) then true else x6)) (none)) (none)) (LP_34_0 k x0 x1 (wrap64 (x2 + (1 : Int))) x3 x4 x5 x6)) (LP_34_0 k x0 x1 (wrap64 (x2 + (1 : Int))) x3 x4 x5 x6)) (none)) (none)) (callX (fun n => impl_boxesOf.f n x3 x4 x5 x6) fun t1 => k (.own 0 0) ⟨[], [some ⟨3, t1, 0⟩]⟩) : Option Unit) := by
 simp only [← wrapA_i64]
 kernel_rfl
theorem w_34 (l0 : List S60) (k : AV tau → Mem tau → Option Unit) : fnA E_34 C_34 D_34 Tryd.f34 B_34 [.sl 60 l0] ⟨[], []⟩ k = (LP_34_0 k l0 ((l0.length : Nat) : Int) (0 : Int) false false false false : Option Unit) := by kernel_rfl
def S_34_0 (N : Nat) : Prop := ∀ (k : AV tau → Mem tau → Option Unit) (x0 : (List S60)) (x1 : Int) (x2 : Int) (x3 : Bool) (x4 : Bool) (x5 : Bool) (x6 : Bool) (r : List Int), impl_ProgPuts.l0 N (x0) (x1) (x2) (x3) (x4) (x5) (x6) = some r → k (.own 0 0) ⟨[], [some ⟨3, r, 0⟩]⟩ = some () → LP_34_0 k x0 x1 x2 x3 x4 x5 x6 = some ()
theorem L_34 (N : Nat) : S_34_0 N := by
 induction N using Nat.strongRecOn with | _ N0 ih =>
 skip
 intro k x0 x1 x2 x3 x4 x5 x6 r h hk
 rcases N0 with _ | N
 · cases h
 first | rw [impl_ProgPuts.l0] at h | simp only [impl_ProgPuts.l0] at h | (unfold impl_ProgPuts.l0 at h; dsimp only at h)
 refine loop_fold mC_34 mD_34 ?_
 refine (w_34_0 k x0 x1 x2 x3 x4 x5 x6).trans ?_
 refine br_eti h rfl (fun c19 h => ?_) (fun c19 h => ?_)
 ·refine call_h N h (fun t1 e20 h => ?_)
  cases h; exact hk
 refine br_g h rfl (fun c21 h => ?_)
 refine br_g h rfl (fun c22 h => ?_)
 refine br_eti h rfl (fun c23 h => ?_) (fun c23 h => ?_)
 ·exact (ih N (by omega)) _ _ _ _ _ _ _ _ _ h hk
 refine call_h 0 h (fun t0 e24 h => ?_)
 refine br_eti h dect (fun c25 h => ?_) (fun c25 h => ?_)
 ·exact (ih N (by omega)) _ _ _ _ _ _ _ _ _ h hk
 refine br_g h rfl (fun c26 h => ?_)
 refine br_g h rfl (fun c27 h => ?_)
 exact (ih N (by omega)) _ _ _ _ _ _ _ _ _ h hk
theorem okc_34 (args : List (AV tau)) (m : Mem tau) (κ : AV tau → Mem tau → Option Unit) (hh : c_34 args m κ = some ()) : ∃ av m1, κ av m1 = some () ∧ ToldA Tryd.prog TT (pnT 34) 34 args m av m1 := by
 obtain ⟨bx_, rw_⟩ := m
 unfold c_34 at hh
 simp only at hh
 split at hh
 case h_2 => cases hh
 rename_i b0
 obtain ⟨l0, hx0, hh0⟩ := bO_some hh
 have ex0 := asSl_some hx0
 subst ex0
 obtain ⟨N, t, h, hκ⟩ := callX_some hh0
 refine ⟨_, _, hκ, told_of_run pq okC_34 (fun _ _ _ => drawA_ok pq okC_34 hmix) (E := E_34) (fn := Tryd.f34) (body := B_34) (by kernel_rfl) (by kernel_rfl) (by kernel_rfl) (by rfl) (by exact Nat.le_of_ble_eq_true rfl) (fun k hk => ?_)⟩
 refine (w_34 l0 k).trans ?_
 replace h : impl_ProgPuts.f N l0 = some t := h
 unfold impl_ProgPuts.f at h
 exact (L_34 N) _ _ _ _ _ _ _ _ _ h hk
noncomputable def C_78 : Ctr tau Unit := ctrS 34 c_34 C_34
noncomputable def D_78 : Drw tau := drawA E_78 C_78
theorem okC_78 : CtrOk Tryd.prog TT pnT C_78 := ctrS_ok okC_34 okc_34
theorem mC_78 : CtrMono C_78 := ctrS_mono mC_34 mc_34
theorem mD_78 : DrMono D_78 := drawA_mono mC_78
noncomputable def B_78 : Code := Tryd.f78.body.getD .skip
theorem mc_78 (args : List (AV tau)) (m : Mem tau) (k k' : AV tau → Mem tau → Option Unit) (hk : ∀ av m, k av m = some () → k' av m = some ()) (h : c_78 args m k = some ()) : c_78 args m k' = some () := by
 unfold c_78 at h ⊢
 split at h
 · repeat' first | exact callX_mono (fun _ h => hk _ _ h) h | refine bO_mono (fun _ h => ?_) h
 · cases h
noncomputable def K_78_0 (k : AV tau → Mem tau → Option Unit) : Kon tau := (kBlock 0 (kS E_78 C_78 D_78 (codeP B_78 [1, 1, 1]) (kEnd E_78 Tryd.f78 k)))
noncomputable def K_78_1 (k : AV tau → Mem tau → Option Unit) : Kon tau := (kBlock 2 (kS E_78 C_78 D_78 (codeP B_78 [1, 1, 0, 1, 0, 0, 1, 0, 0, 1, 1]) (kBlock 1 (kS E_78 C_78 D_78 (codeP B_78 [1, 1, 0, 1, 0, 0, 1, 1]) (kL E_78 C_78 D_78 (codeP B_78 [1, 1, 0, 1, 0, 0]) (kBlock 0 (kS E_78 C_78 D_78 (codeP B_78 [1, 1, 1]) (kEnd E_78 Tryd.f78 k))))))))
def st_78_0 (x0 : (List S60)) (x1 : Int) (x2 : Int) (x3 : (List Int)) : St tau := ⟨tmL 62 0 [(0, .sl 60 x0), (1, .int .i64 x1), (5, .own 0 0), (6, .int .i64 x2)], ⟨[], [some ⟨3, x3, 0⟩]⟩⟩
noncomputable def LP_78_0 (k : AV tau → Mem tau → Option Unit) (x0 : (List S60)) (x1 : Int) (x2 : Int) (x3 : (List Int)) : Option Unit := loopA E_78 (codeA E_78 C_78 D_78 (codeP B_78 [1, 1, 0, 1, 0, 0])) (codeP B_78 [1, 1, 0, 1, 0, 0]) (K_78_0 k) (st_78_0 x0 x1 x2 x3)
def st_78_1 (x0 : (List S60)) (x1 : Int) (x2 : Int) (x3 : Bool) (x4 : Int) (x5 : (List Int)) : St tau := ⟨tmL 62 0 [(0, .sl 60 x0), (1, .int .i64 x1), (5, .own 0 0), (6, .int .i64 x2), (7, .bool x3), (8, .int .i64 x4)], ⟨[], [some ⟨3, x5, 0⟩]⟩⟩
noncomputable def LP_78_1 (k : AV tau → Mem tau → Option Unit) (x0 : (List S60)) (x1 : Int) (x2 : Int) (x3 : Bool) (x4 : Int) (x5 : (List Int)) : Option Unit := loopA E_78 (codeA E_78 C_78 D_78 (codeP B_78 [1, 1, 0, 1, 0, 0, 1, 0, 0, 1, 0, 1, 0, 0])) (codeP B_78 [1, 1, 0, 1, 0, 0, 1, 0, 0, 1, 0, 1, 0, 0]) (K_78_1 k) (st_78_1 x0 x1 x2 x3 x4 x5)
theorem w_78_0 (k : AV tau → Mem tau → Option Unit) (x0 : (List S60)) (x1 : Int) (x2 : Int) (x3 : (List Int)) : codeA E_78 C_78 D_78 (codeP B_78 [1, 1, 0, 1, 0, 0]) (kL E_78 C_78 D_78 (codeP B_78 [1, 1, 0, 1, 0, 0]) (K_78_0 k)) (st_78_0 x0 x1 x2 x3) = (brA (decide (x2 < (4 : Int))) (LP_78_1 k x0 x1 x2 false (0 : Int) x3) (k (.own 0 0) ⟨[], [some ⟨3, x3, 0⟩]⟩) : Option Unit) := by kernel_rfl
theorem w_78_1 (k : AV tau → Mem tau → Option Unit) (x0 : (List S60)) (x1 : Int) (x2 : Int) (x3 : Bool) (x4 : Int) (x5 : (List Int)) : codeA E_78 C_78 D_78 (codeP B_78 [1, 1, 0, 1, 0, 0, 1, 0, 0, 1, 0, 1, 0, 0]) (kL E_78 C_78 D_78 (codeP B_78 [1, 1, 0, 1, 0, 0, 1, 0, 0, 1, 0, 1, 0, 0]) (K_78_1 k)) (st_78_1 x0 x1 x2 x3 x4 x5) = (brA (decide (x4 < ((x0.length : Nat) : Int))) (brA x3 (LP_78_1 k x0 x1 x2 true (wrap64 (x4 + (1 : Int))) x5) (brA (decide ((0 : Int) ≤ x4)) (brA (decide (x4 < ((x0.length : Nat) : Int))) (brA (decide ((rd_T60 x0 x4).f0 = x1)) (brA (decide (x1 = (1 : Int))) (brA (decide ((0 : Int) ≤ x4)) (brA (decide (x4 < ((x0.length : Nat) : Int))) (brA (decide ((rd_T60 x0 x4).f2 = x2)) (LP_78_1 k x0 x1 x2 true (wrap64 (x4 + (1 : Int))) x5) (brA (decide (x1 = (2 : Int))) (brA (decide ((0 : Int) ≤ x4)) (brA (decide (x4 < ((x0.length : Nat) : Int))) (LP_78_1 k x0 x1 x2 (decide ((rd_T60 x0 x4).f1 = x2)) (wrap64 (x4 + (1 : Int))) x5) (none)) (none)) (LP_78_1 k x0 x1 x2 false (wrap64 (x4 + (1 : Int))) x5))) (none)) (none)) (brA (decide (x1 = (2 : Int))) (brA (decide ((0 : Int) ≤ x4)) (brA (decide (x4 < ((x0.length : Nat) : Int))) (LP_78_1 k x0 x1 x2 (decide ((rd_T60 x0 x4).f1 = x2)) (wrap64 (x4 + (1 : Int))) x5) (none)) (none)) (LP_78_1 k x0 x1 x2 false (wrap64 (x4 + (1 : Int))) x5))) (LP_78_1 k x0 x1 x2 false (wrap64 (x4 + (1 : Int))) x5)) (none)) (none))) (brA x3 (brA (decide ((x5.length + 1) ≤ 17592186044416)) (LP_78_0 k x0 x1 (wrap64 (x2 + (1 : Int))) (x5 ++ ([x2] : List Int))) (none)) (LP_78_0 k x0 x1 (wrap64 (x2 + (1 : Int))) x5)) : Option Unit) := by
 simp only [← wrapA_i64]
 kernel_rfl
theorem w_78 (l0 : List S60) (a1 : Int) (k : AV tau → Mem tau → Option Unit) : fnA E_78 C_78 D_78 Tryd.f78 B_78 [.sl 60 l0, .int .i64 a1] ⟨[], []⟩ k = (LP_78_0 k l0 a1 (0 : Int) ([] : List Int) : Option Unit) := by kernel_rfl
def S_78_0 (N : Nat) : Prop := ∀ (k : AV tau → Mem tau → Option Unit) (x0 : (List S60)) (x1 : Int) (x2 : Int) (x3 : (List Int)) (r : List Int), spec_l2Boxes.l0 N (x0) (x1) (x3) (x2) = some r → k (.own 0 0) ⟨[], [some ⟨3, r, 0⟩]⟩ = some () → LP_78_0 k x0 x1 x2 x3 = some ()
def S_78_1 (N : Nat) : Prop := ∀ (k : AV tau → Mem tau → Option Unit) (x0 : (List S60)) (x1 : Int) (x2 : Int) (x3 : Bool) (x4 : Int) (x5 : (List Int)) (r : List Int), spec_l2Boxes.l1 N (x0) (x1) (x5) (x2) (x3) (x4) = some r → k (.own 0 0) ⟨[], [some ⟨3, r, 0⟩]⟩ = some () → LP_78_1 k x0 x1 x2 x3 x4 x5 = some ()
theorem L_78 (N : Nat) : S_78_0 N ∧ S_78_1 N := by
 induction N using Nat.strongRecOn with | _ N0 ih =>
 refine ⟨?_, ?_⟩
 ·intro k x0 x1 x2 x3 r h hk
  rcases N0 with _ | N
  · cases h
  first | rw [spec_l2Boxes.l0] at h | simp only [spec_l2Boxes.l0] at h | (unfold spec_l2Boxes.l0 at h; dsimp only at h)
  refine loop_fold mC_78 mD_78 ?_
  refine (w_78_0 k x0 x1 x2 x3).trans ?_
  refine br_eti h rfl (fun c23 h => ?_) (fun c23 h => ?_)
  ·cases h; exact hk
  exact (ih N (by omega)).2 _ _ _ _ _ _ _ _ h hk
 ·intro k x0 x1 x2 x3 x4 x5 r h hk
  rcases N0 with _ | N
  · cases h
  first | rw [spec_l2Boxes.l1] at h | simp only [spec_l2Boxes.l1] at h | (unfold spec_l2Boxes.l1 at h; dsimp only at h)
  refine loop_fold mC_78 mD_78 ?_
  refine (w_78_1 k x0 x1 x2 x3 x4 x5).trans ?_
  refine br_eti h rfl (fun c24 h => ?_) (fun c24 h => ?_)
  ·refine br_eti h dect (fun c25 h => ?_) (fun c25 h => ?_)
   ·exact (ih N (by omega)).1 _ _ _ _ _ _ h hk
   refine br_g h (by first | rfl | exact dect | exact (congrArg not dect) | (simp; done) | (simp [beqI]; done) | (simp; omega)) (fun c26 h => ?_)
   exact (ih N (by omega)).1 _ _ _ _ _ _ h hk
  refine br_ite h dect (fun c27 h => ?_) (fun c27 h => ?_)
  ·exact (ih N (by omega)).2 _ _ _ _ _ _ _ _ h hk
  refine br_g h rfl (fun c28 h => ?_)
  refine br_t (by first | (simp [c24]; done) | (simp; omega) | (simp only [List.length_append, List.length_cons, List.length_nil, List.length_take, List.length_drop] at c24 ⊢; simp; omega) | (simp only [List.length_append, List.length_cons, List.length_nil, List.length_take, List.length_drop] at c24; simp; omega) | (simp_all; done)) ?_
  refine br_eti h rfl (fun c29 h => ?_) (fun c29 h => ?_)
  ·exact (ih N (by omega)).2 _ _ _ _ _ _ _ _ h hk
  refine br_eti h rfl (fun c30 h => ?_) (fun c30 h => ?_)
  ·refine br_eti h rfl (fun c31 h => ?_) (fun c31 h => ?_)
   ·exact (ih N (by omega)).2 _ _ _ _ _ _ _ _ h hk
   refine br_t (by first | (simp [c28]; done) | (simp; omega) | (simp only [List.length_append, List.length_cons, List.length_nil, List.length_take, List.length_drop] at c24 ⊢; simp; omega) | (simp only [List.length_append, List.length_cons, List.length_nil, List.length_take, List.length_drop] at c24; simp; omega) | (simp_all; done)) ?_
   refine br_t (by first | (simp [c24]; done) | (simp; omega) | (simp only [List.length_append, List.length_cons, List.length_nil, List.length_take, List.length_drop] at c24 ⊢; simp; omega) | (simp only [List.length_append, List.length_cons, List.length_nil, List.length_take, List.length_drop] at c24; simp; omega) | (simp_all; done)) ?_
   exact (ih N (by omega)).2 _ _ _ _ _ _ _ _ h hk
  refine br_t (by first | (simp [c28]; done) | (simp; omega) | (simp only [List.length_append, List.length_cons, List.length_nil, List.length_take, List.length_drop] at c24 ⊢; simp; omega) | (simp only [List.length_append, List.length_cons, List.length_nil, List.length_take, List.length_drop] at c24; simp; omega) | (simp_all; done)) ?_
  refine br_t (by first | (simp [c24]; done) | (simp; omega) | (simp only [List.length_append, List.length_cons, List.length_nil, List.length_take, List.length_drop] at c24 ⊢; simp; omega) | (simp only [List.length_append, List.length_cons, List.length_nil, List.length_take, List.length_drop] at c24; simp; omega) | (simp_all; done)) ?_
  refine br_ite h rfl (fun c32 h => ?_) (fun c32 h => ?_)
  ·exact (ih N (by omega)).2 _ _ _ _ _ _ _ _ h hk
  refine br_eti h rfl (fun c33 h => ?_) (fun c33 h => ?_)
  ·exact (ih N (by omega)).2 _ _ _ _ _ _ _ _ h hk
  refine br_t (by first | (simp [c28]; done) | (simp; omega) | (simp only [List.length_append, List.length_cons, List.length_nil, List.length_take, List.length_drop] at c24 ⊢; simp; omega) | (simp only [List.length_append, List.length_cons, List.length_nil, List.length_take, List.length_drop] at c24; simp; omega) | (simp_all; done)) ?_
  refine br_t (by first | (simp [c24]; done) | (simp; omega) | (simp only [List.length_append, List.length_cons, List.length_nil, List.length_take, List.length_drop] at c24 ⊢; simp; omega) | (simp only [List.length_append, List.length_cons, List.length_nil, List.length_take, List.length_drop] at c24; simp; omega) | (simp_all; done)) ?_
  exact (ih N (by omega)).2 _ _ _ _ _ _ _ _ h hk
theorem okc_78 (args : List (AV tau)) (m : Mem tau) (κ : AV tau → Mem tau → Option Unit) (hh : c_78 args m κ = some ()) : ∃ av m1, κ av m1 = some () ∧ ToldA Tryd.prog TT (pnT 78) 78 args m av m1 := by
 obtain ⟨bx_, rw_⟩ := m
 unfold c_78 at hh
 simp only at hh
 split at hh
 case h_2 => cases hh
 rename_i b0 b1
 obtain ⟨l0, hx0, hh0⟩ := bO_some hh
 obtain ⟨a1, hx1, hh1⟩ := bO_some hh0
 have ex0 := asSl_some hx0
 have ex1 := asI_some hx1
 subst ex0 ex1
 obtain ⟨N, t, h, hκ⟩ := callX_some hh1
 refine ⟨_, _, hκ, told_of_run pq okC_78 (fun _ _ _ => drawA_ok pq okC_78 hmix) (E := E_78) (fn := Tryd.f78) (body := B_78) (by kernel_rfl) (by kernel_rfl) (by kernel_rfl) (by rfl) (by exact Nat.le_of_ble_eq_true rfl) (fun k hk => ?_)⟩
 refine (w_78 l0 a1 k).trans ?_
 replace h : spec_l2Boxes.f N l0 a1 = some t := h
 unfold spec_l2Boxes.f at h
 exact (L_78 N).1 _ _ _ _ _ _ h hk
noncomputable def C_35 : Ctr tau Unit := ctrS 78 c_78 C_78
noncomputable def D_35 : Drw tau := drawA E_35 C_35
theorem okC_35 : CtrOk Tryd.prog TT pnT C_35 := ctrS_ok okC_78 okc_78
theorem mC_35 : CtrMono C_35 := ctrS_mono mC_78 mc_78
theorem mD_35 : DrMono D_35 := drawA_mono mC_35
noncomputable def B_35 : Code := Tryd.f35.body.getD .skip
theorem mc_35 (args : List (AV tau)) (m : Mem tau) (k k' : AV tau → Mem tau → Option Unit) (hk : ∀ av m, k av m = some () → k' av m = some ()) (h : c_35 args m k = some ()) : c_35 args m k' = some () := by
 unfold c_35 at h ⊢
 split at h
 · repeat' first | exact callX_mono (fun _ h => hk _ _ h) h | refine bO_mono (fun _ h => ?_) h
 · cases h
theorem w_35 (l0 : List S60) (k : AV tau → Mem tau → Option Unit) : fnA E_35 C_35 D_35 Tryd.f35 B_35 [.sl 60 l0] ⟨[], []⟩ k = (callX (fun n => spec_l2Boxes.f n l0 (1 : Int)) fun t0 => k (.own 0 0) ⟨[], [some ⟨3, t0, 0⟩]⟩ : Option Unit) := by kernel_rfl
theorem okc_35 (args : List (AV tau)) (m : Mem tau) (κ : AV tau → Mem tau → Option Unit) (hh : c_35 args m κ = some ()) : ∃ av m1, κ av m1 = some () ∧ ToldA Tryd.prog TT (pnT 35) 35 args m av m1 := by
 obtain ⟨bx_, rw_⟩ := m
 unfold c_35 at hh
 simp only at hh
 split at hh
 case h_2 => cases hh
 rename_i b0
 obtain ⟨l0, hx0, hh0⟩ := bO_some hh
 have ex0 := asSl_some hx0
 subst ex0
 obtain ⟨N, t, h, hκ⟩ := callX_some hh0
 refine ⟨_, _, hκ, told_of_run pq okC_35 (fun _ _ _ => drawA_ok pq okC_35 hmix) (E := E_35) (fn := Tryd.f35) (body := B_35) (by kernel_rfl) (by kernel_rfl) (by kernel_rfl) (by rfl) (by exact Nat.le_of_ble_eq_true rfl) (fun k hk => ?_)⟩
 refine (w_35 l0 k).trans ?_
 replace h : spec_ProgLoads.f N l0 = some t := h
 unfold spec_ProgLoads.f at h
 refine call_h N h (fun t0 e2 h => ?_)
 cases h; exact hk
noncomputable def C_36 : Ctr tau Unit := ctrS 35 c_35 C_35
noncomputable def D_36 : Drw tau := drawA E_36 C_36
theorem okC_36 : CtrOk Tryd.prog TT pnT C_36 := ctrS_ok okC_35 okc_35
theorem mC_36 : CtrMono C_36 := ctrS_mono mC_35 mc_35
theorem mD_36 : DrMono D_36 := drawA_mono mC_36
noncomputable def B_36 : Code := Tryd.f36.body.getD .skip
theorem mc_36 (args : List (AV tau)) (m : Mem tau) (k k' : AV tau → Mem tau → Option Unit) (hk : ∀ av m, k av m = some () → k' av m = some ()) (h : c_36 args m k = some ()) : c_36 args m k' = some () := by
 unfold c_36 at h ⊢
 split at h
 · repeat' first | exact callX_mono (fun _ h => hk _ _ h) h | refine bO_mono (fun _ h => ?_) h
 · cases h
theorem w_36 (l0 : List S60) (k : AV tau → Mem tau → Option Unit) : fnA E_36 C_36 D_36 Tryd.f36 B_36 [.sl 60 l0] ⟨[], []⟩ k = (callX (fun n => spec_l2Boxes.f n l0 (2 : Int)) fun t0 => k (.own 0 0) ⟨[], [some ⟨3, t0, 0⟩]⟩ : Option Unit) := by kernel_rfl
theorem okc_36 (args : List (AV tau)) (m : Mem tau) (κ : AV tau → Mem tau → Option Unit) (hh : c_36 args m κ = some ()) : ∃ av m1, κ av m1 = some () ∧ ToldA Tryd.prog TT (pnT 36) 36 args m av m1 := by
 obtain ⟨bx_, rw_⟩ := m
 unfold c_36 at hh
 simp only at hh
 split at hh
 case h_2 => cases hh
 rename_i b0
 obtain ⟨l0, hx0, hh0⟩ := bO_some hh
 have ex0 := asSl_some hx0
 subst ex0
 obtain ⟨N, t, h, hκ⟩ := callX_some hh0
 refine ⟨_, _, hκ, told_of_run pq okC_36 (fun _ _ _ => drawA_ok pq okC_36 hmix) (E := E_36) (fn := Tryd.f36) (body := B_36) (by kernel_rfl) (by kernel_rfl) (by kernel_rfl) (by rfl) (by exact Nat.le_of_ble_eq_true rfl) (fun k hk => ?_)⟩
 refine (w_36 l0 k).trans ?_
 replace h : spec_ProgPuts.f N l0 = some t := h
 unfold spec_ProgPuts.f at h
 refine call_h N h (fun t0 e2 h => ?_)
 cases h; exact hk
noncomputable def C_72 : Ctr tau Unit := ctrS 36 c_36 C_36
noncomputable def D_72 : Drw tau := drawA E_72 C_72
theorem okC_72 : CtrOk Tryd.prog TT pnT C_72 := ctrS_ok okC_36 okc_36
theorem mC_72 : CtrMono C_72 := ctrS_mono mC_36 mc_36
theorem mD_72 : DrMono D_72 := drawA_mono mC_72
noncomputable def B_72 : Code := Tryd.f72.body.getD .skip
theorem mc_72 (args : List (AV tau)) (m : Mem tau) (k k' : AV tau → Mem tau → Option Unit) (hk : ∀ av m, k av m = some () → k' av m = some ()) (h : c_72 args m k = some ()) : c_72 args m k' = some () := by
 unfold c_72 at h ⊢
 split at h
 · repeat' first | exact callX_mono (fun _ h => hk _ _ h) h | refine bO_mono (fun _ h => ?_) h
 · cases h
theorem w_72 (a0_0 : Int) (a0_1 : Int) (a0_2 : Int) (a0_3 : Int) (k : AV tau → Mem tau → Option Unit) : fnA E_72 C_72 D_72 Tryd.f72 B_72 [.agg [.int .i64 a0_0, .int .i64 a0_1, .int .i64 a0_2, .int .i64 a0_3]] ⟨[], []⟩ k = (callX (fun n => strconv_Itoa.f n a0_1) fun t0 => brA (decide ((1 + t0.size) ≤ 9223372036854775807)) (callX (fun n => strconv_Itoa.f n a0_2) fun t1 => brA (decide ((1 + t1.size) ≤ 9223372036854775807)) (callX (fun n => strconv_Itoa.f n a0_3) fun t2 => brA (decide ((1 + t2.size) ≤ 9223372036854775807)) (brA (decide (a0_0 = (1 : Int))) (brA (decide ((4 + ((bs [32]) ++ t0).size) ≤ 9223372036854775807)) (brA (decide ((((bs [108, 111, 97, 100]) ++ ((bs [32]) ++ t0)).size + ((bs [32]) ++ t1).size) ≤ 9223372036854775807)) (k (.str (((bs [108, 111, 97, 100]) ++ ((bs [32]) ++ t0)) ++ ((bs [32]) ++ t1))) ⟨[], []⟩) (none)) (none)) (brA (decide (a0_0 = (2 : Int))) (brA (decide ((3 + ((bs [32]) ++ t0).size) ≤ 9223372036854775807)) (brA (decide ((((bs [112, 117, 116]) ++ ((bs [32]) ++ t0)).size + ((bs [32]) ++ t1).size) ≤ 9223372036854775807)) (k (.str (((bs [112, 117, 116]) ++ ((bs [32]) ++ t0)) ++ ((bs [32]) ++ t1))) ⟨[], []⟩) (none)) (none)) (brA (decide (a0_0 = (3 : Int))) (brA (decide ((3 + ((bs [32]) ++ t0).size) ≤ 9223372036854775807)) (brA (decide ((((bs [110, 117, 109]) ++ ((bs [32]) ++ t0)).size + ((bs [32]) ++ t2).size) ≤ 9223372036854775807)) (k (.str (((bs [110, 117, 109]) ++ ((bs [32]) ++ t0)) ++ ((bs [32]) ++ t2))) ⟨[], []⟩) (none)) (none)) (brA (decide (a0_0 = (4 : Int))) (brA (decide ((3 + ((bs [32]) ++ t0).size) ≤ 9223372036854775807)) (brA (decide ((((bs [97, 100, 100]) ++ ((bs [32]) ++ t0)).size + ((bs [32]) ++ t1).size) ≤ 9223372036854775807)) (k (.str (((bs [97, 100, 100]) ++ ((bs [32]) ++ t0)) ++ ((bs [32]) ++ t1))) ⟨[], []⟩) (none)) (none)) (brA (decide (a0_0 = (5 : Int))) (brA (decide ((3 + ((bs [32]) ++ t0).size) ≤ 9223372036854775807)) (brA (decide ((((bs [115, 117, 98]) ++ ((bs [32]) ++ t0)).size + ((bs [32]) ++ t1).size) ≤ 9223372036854775807)) (k (.str (((bs [115, 117, 98]) ++ ((bs [32]) ++ t0)) ++ ((bs [32]) ++ t1))) ⟨[], []⟩) (none)) (none)) (brA (decide (a0_0 = (6 : Int))) (brA (decide ((4 + ((bs [32]) ++ t0).size) ≤ 9223372036854775807)) (brA (decide ((((bs [108, 101, 115, 115]) ++ ((bs [32]) ++ t0)).size + ((bs [32]) ++ t1).size) ≤ 9223372036854775807)) (brA (decide (((((bs [108, 101, 115, 115]) ++ ((bs [32]) ++ t0)) ++ ((bs [32]) ++ t1)).size + ((bs [32]) ++ t2).size) ≤ 9223372036854775807)) (k (.str ((((bs [108, 101, 115, 115]) ++ ((bs [32]) ++ t0)) ++ ((bs [32]) ++ t1)) ++ ((bs [32]) ++ t2))) ⟨[], []⟩) (none)) (none)) (none)) (brA (decide (a0_0 = (7 : Int))) (k (.str (bs [102, 97, 105, 108])) ⟨[], []⟩) (k (.str (bs [110, 111, 110, 101])) ⟨[], []⟩)))))))) (none)) (none)) (none) : Option Unit) := by kernel_rfl
theorem okc_72 (args : List (AV tau)) (m : Mem tau) (κ : AV tau → Mem tau → Option Unit) (hh : c_72 args m κ = some ()) : ∃ av m1, κ av m1 = some () ∧ ToldA Tryd.prog TT (pnT 72) 72 args m av m1 := by
 obtain ⟨bx_, rw_⟩ := m
 unfold c_72 at hh
 simp only at hh
 split at hh
 case h_2 => cases hh
 rename_i b0 b1 b2 b3
 obtain ⟨a0_0, hx0, hh0⟩ := bO_some hh
 obtain ⟨a0_1, hx1, hh1⟩ := bO_some hh0
 obtain ⟨a0_2, hx2, hh2⟩ := bO_some hh1
 obtain ⟨a0_3, hx3, hh3⟩ := bO_some hh2
 have ex0 := asI_some hx0
 have ex1 := asI_some hx1
 have ex2 := asI_some hx2
 have ex3 := asI_some hx3
 subst ex0 ex1 ex2 ex3
 obtain ⟨N, t, h, hκ⟩ := callX_some hh3
 refine ⟨_, _, hκ, told_of_run pq okC_72 (fun _ _ _ => drawA_ok pq okC_72 hmix) (E := E_72) (fn := Tryd.f72) (body := B_72) (by kernel_rfl) (by kernel_rfl) (by kernel_rfl) (by rfl) (by exact Nat.le_of_ble_eq_true rfl) (fun k hk => ?_)⟩
 refine (w_72 a0_0 a0_1 a0_2 a0_3 k).trans ?_
 replace h : impl_insText.f N a0_0 a0_1 a0_2 a0_3 = some t := h
 unfold impl_insText.f at h
 refine call_h N h (fun t0 e27 h => ?_)
 refine br_g h rfl (fun c28 h => ?_)
 refine call_h N h (fun t1 e29 h => ?_)
 refine br_g h rfl (fun c30 h => ?_)
 refine call_h N h (fun t2 e31 h => ?_)
 refine br_g h rfl (fun c32 h => ?_)
 refine br_ite h rfl (fun c33 h => ?_) (fun c33 h => ?_)
 ·refine br_g h rfl (fun c34 h => ?_)
  refine br_g h rfl (fun c35 h => ?_)
  cases h; exact hk
 refine br_ite h rfl (fun c36 h => ?_) (fun c36 h => ?_)
 ·refine br_g h rfl (fun c37 h => ?_)
  refine br_g h rfl (fun c38 h => ?_)
  cases h; exact hk
 refine br_ite h rfl (fun c39 h => ?_) (fun c39 h => ?_)
 ·refine br_g h rfl (fun c40 h => ?_)
  refine br_g h rfl (fun c41 h => ?_)
  cases h; exact hk
 refine br_ite h rfl (fun c42 h => ?_) (fun c42 h => ?_)
 ·refine br_g h rfl (fun c43 h => ?_)
  refine br_g h rfl (fun c44 h => ?_)
  cases h; exact hk
 refine br_ite h rfl (fun c45 h => ?_) (fun c45 h => ?_)
 ·refine br_g h rfl (fun c46 h => ?_)
  refine br_g h rfl (fun c47 h => ?_)
  cases h; exact hk
 refine br_eti h rfl (fun c48 h => ?_) (fun c48 h => ?_)
 ·refine br_ite h rfl (fun c49 h => ?_) (fun c49 h => ?_)
  ·cases h; exact hk
  cases h; exact hk
 refine br_g h rfl (fun c50 h => ?_)
 refine br_g h rfl (fun c51 h => ?_)
 refine br_g h rfl (fun c52 h => ?_)
 cases h; exact hk
noncomputable def C_27 : Ctr tau Unit := ctrS 72 c_72 C_72
noncomputable def D_27 : Drw tau := drawA E_27 C_27
theorem okC_27 : CtrOk Tryd.prog TT pnT C_27 := ctrS_ok okC_72 okc_72
theorem mC_27 : CtrMono C_27 := ctrS_mono mC_72 mc_72
theorem mD_27 : DrMono D_27 := drawA_mono mC_27
noncomputable def B_27 : Code := Tryd.f27.body.getD .skip
theorem mc_27 (args : List (AV tau)) (m : Mem tau) (k k' : AV tau → Mem tau → Option Unit) (hk : ∀ av m, k av m = some () → k' av m = some ()) (h : c_27 args m k = some ()) : c_27 args m k' = some () := by
 unfold c_27 at h ⊢
 split at h
 · repeat' first | exact callX_mono (fun _ h => hk _ _ h) h | refine bO_mono (fun _ h => ?_) h
 · cases h
noncomputable def K_27_0 (k : AV tau → Mem tau → Option Unit) : Kon tau := (kBlock 0 (kS E_27 C_27 D_27 (codeP B_27 [1, 1, 1]) (kEnd E_27 Tryd.f27 k)))
def st_27_0 (x0 : (List S60)) (x1 : Int) (x2 : Int) (x3 : (List ByteArray)) : St tau := ⟨tmL 20 0 [(3, .own 0 0), (6, .sl 60 x0), (7, .int .i64 x1), (8, .int .i64 x2)], ⟨[], [some ⟨9, x3, 0⟩]⟩⟩
noncomputable def LP_27_0 (k : AV tau → Mem tau → Option Unit) (x0 : (List S60)) (x1 : Int) (x2 : Int) (x3 : (List ByteArray)) : Option Unit := loopA E_27 (codeA E_27 C_27 D_27 (codeP B_27 [1, 1, 0, 1, 0, 0])) (codeP B_27 [1, 1, 0, 1, 0, 0]) (K_27_0 k) (st_27_0 x0 x1 x2 x3)
theorem w_27_0 (k : AV tau → Mem tau → Option Unit) (x0 : (List S60)) (x1 : Int) (x2 : Int) (x3 : (List ByteArray)) : codeA E_27 C_27 D_27 (codeP B_27 [1, 1, 0, 1, 0, 0]) (kL E_27 C_27 D_27 (codeP B_27 [1, 1, 0, 1, 0, 0]) (K_27_0 k)) (st_27_0 x0 x1 x2 x3) = (brA (decide (x2 < x1)) (brA (decide ((0 : Int) ≤ x2)) (brA (decide (x2 < ((x0.length : Nat) : Int))) (callX (fun n => impl_insText.f n ((rd_T60 x0 x2).f0) ((rd_T60 x0 x2).f1) ((rd_T60 x0 x2).f2) ((rd_T60 x0 x2).f3)) fun t0 => brA (decide ((x3.length + 1) ≤ 8796093022208)) (LP_27_0 k x0 x1 (wrap64 (x2 + (1 : Int))) (x3 ++ ([t0] : List ByteArray))) (none)) (none)) (none)) (callX (fun n => strings_Join.f n x3 (bs [44])) fun t1 => k (.str t1) ⟨[], []⟩) : Option Unit) := by
 simp only [← wrapA_i64]
 kernel_rfl
theorem w_27 (l0 : List S60) (k : AV tau → Mem tau → Option Unit) : fnA E_27 C_27 D_27 Tryd.f27 B_27 [.sl 60 l0] ⟨[], []⟩ k = (LP_27_0 k l0 ((l0.length : Nat) : Int) (0 : Int) ([] : List ByteArray) : Option Unit) := by kernel_rfl
def S_27_0 (N : Nat) : Prop := ∀ (k : AV tau → Mem tau → Option Unit) (x0 : (List S60)) (x1 : Int) (x2 : Int) (x3 : (List ByteArray)) (r : ByteArray), impl_ProgText.l0 N (x0) (x1) (x2) (x3) = some r → k (.str (r)) ⟨[], []⟩ = some () → LP_27_0 k x0 x1 x2 x3 = some ()
theorem L_27 (N : Nat) : S_27_0 N := by
 induction N using Nat.strongRecOn with | _ N0 ih =>
 skip
 intro k x0 x1 x2 x3 r h hk
 rcases N0 with _ | N
 · cases h
 first | rw [impl_ProgText.l0] at h | simp only [impl_ProgText.l0] at h | (unfold impl_ProgText.l0 at h; dsimp only at h)
 refine loop_fold mC_27 mD_27 ?_
 refine (w_27_0 k x0 x1 x2 x3).trans ?_
 refine br_eti h rfl (fun c13 h => ?_) (fun c13 h => ?_)
 ·refine call_h N h (fun t1 e14 h => ?_)
  cases h; exact hk
 refine br_g h rfl (fun c15 h => ?_)
 refine br_g h rfl (fun c16 h => ?_)
 refine call_h N h (fun t0 e17 h => ?_)
 refine br_g h rfl (fun c18 h => ?_)
 exact (ih N (by omega)) _ _ _ _ _ _ h hk
theorem okc_27 (args : List (AV tau)) (m : Mem tau) (κ : AV tau → Mem tau → Option Unit) (hh : c_27 args m κ = some ()) : ∃ av m1, κ av m1 = some () ∧ ToldA Tryd.prog TT (pnT 27) 27 args m av m1 := by
 obtain ⟨bx_, rw_⟩ := m
 unfold c_27 at hh
 simp only at hh
 split at hh
 case h_2 => cases hh
 rename_i b0
 obtain ⟨l0, hx0, hh0⟩ := bO_some hh
 have ex0 := asSl_some hx0
 subst ex0
 obtain ⟨N, t, h, hκ⟩ := callX_some hh0
 refine ⟨_, _, hκ, told_of_run pq okC_27 (fun _ _ _ => drawA_ok pq okC_27 hmix) (E := E_27) (fn := Tryd.f27) (body := B_27) (by kernel_rfl) (by kernel_rfl) (by kernel_rfl) (by rfl) (by exact Nat.le_of_ble_eq_true rfl) (fun k hk => ?_)⟩
 refine (w_27 l0 k).trans ?_
 replace h : impl_ProgText.f N l0 = some t := h
 unfold impl_ProgText.f at h
 exact (L_27 N) _ _ _ _ _ _ h hk
noncomputable def C_61 : Ctr tau Unit := ctrS 27 c_27 C_27
noncomputable def D_61 : Drw tau := drawA E_61 C_61
theorem okC_61 : CtrOk Tryd.prog TT pnT C_61 := ctrS_ok okC_27 okc_27
theorem mC_61 : CtrMono C_61 := ctrS_mono mC_27 mc_27
theorem mD_61 : DrMono D_61 := drawA_mono mC_61
noncomputable def B_61 : Code := Tryd.f61.body.getD .skip
theorem mc_61 (args : List (AV tau)) (m : Mem tau) (k k' : AV tau → Mem tau → Option Unit) (hk : ∀ av m, k av m = some () → k' av m = some ()) (h : c_61 args m k = some ()) : c_61 args m k' = some () := by
 unfold c_61 at h ⊢
 split at h
 · repeat' first | exact callX_mono (fun _ h => hk _ _ h) h | refine bO_mono (fun _ h => ?_) h
 · cases h
noncomputable def K_61_0 (k : AV tau → Mem tau → Option Unit) : Kon tau := (kBlock 0 (kS E_61 C_61 D_61 (codeP B_61 [1, 1, 1, 1, 1]) (kEnd E_61 Tryd.f61 k)))
def st_61_0 (x0 : ByteArray) (x1 : ByteArray) (x2 : Int) (x3 : Int) : St tau := ⟨tmL 62 0 [(0, .str x0), (4, .str x1), (5, .int .i64 x2), (6, .int .i64 x3)], ⟨[], []⟩⟩
noncomputable def LP_61_0 (k : AV tau → Mem tau → Option Unit) (x0 : ByteArray) (x1 : ByteArray) (x2 : Int) (x3 : Int) : Option Unit := loopA E_61 (codeA E_61 C_61 D_61 (codeP B_61 [1, 1, 1, 1, 0, 1, 0, 0])) (codeP B_61 [1, 1, 1, 1, 0, 1, 0, 0]) (K_61_0 k) (st_61_0 x0 x1 x2 x3)
theorem w_61_0 (k : AV tau → Mem tau → Option Unit) (x0 : ByteArray) (x1 : ByteArray) (x2 : Int) (x3 : Int) : codeA E_61 C_61 D_61 (codeP B_61 [1, 1, 1, 1, 0, 1, 0, 0]) (kL E_61 C_61 D_61 (codeP B_61 [1, 1, 1, 1, 0, 1, 0, 0]) (K_61_0 k)) (st_61_0 x0 x1 x2 x3) = (brA (decide (x3 < ((x1.size : Nat) : Int))) (brA (decide ((0 : Int) ≤ x3)) (brA (decide (x3 < ((x1.size : Nat) : Int))) (callX (fun n => impl_in.f (wrap64 (btA x1 x3)) (48 : Int) (57 : Int)) fun t1 => brA (!t1) (k (.tup [.int .i64 (0 : Int), .bool false]) ⟨[], []⟩) (brA (decide ((0 : Int) ≤ x3)) (brA (decide (x3 < ((x1.size : Nat) : Int))) (LP_61_0 k x0 x1 (wrap64 ((wrap64 ((10 : Int) * x2)) + (wrap64 (IntKind.wrap .u8 ((btA x1 x3) - (48 : Int)))))) (wrap64 (x3 + (1 : Int)))) (none)) (none))) (none)) (none)) (brA (decide (((x0.size : Nat) : Int) > ((x1.size : Nat) : Int))) (k (.tup [.int .i64 (wrap64 ((0 : Int) - x2)), .bool true]) ⟨[], []⟩) (k (.tup [.int .i64 x2, .bool true]) ⟨[], []⟩)) : Option Unit) := by
 simp only [← wrapA_i64]
 kernel_rfl
theorem w_61 (a0 : ByteArray) (k : AV tau → Mem tau → Option Unit) : fnA E_61 C_61 D_61 Tryd.f61 B_61 [.str a0] ⟨[], []⟩ k = (callX (fun n => strings_TrimPrefix.f n a0 (bs [45])) fun t0 => brA (decide (((t0.size : Nat) : Int) < (1 : Int))) (k (.tup [.int .i64 (0 : Int), .bool false]) ⟨[], []⟩) (brA (decide (((t0.size : Nat) : Int) > (9 : Int))) (k (.tup [.int .i64 (0 : Int), .bool false]) ⟨[], []⟩) (brA (decide ((0 : Int) < ((t0.size : Nat) : Int))) (brA (decide ((btA t0 (0 : Int)) = (48 : Int))) (brA (decide (((t0.size : Nat) : Int) > (1 : Int))) (k (.tup [.int .i64 (0 : Int), .bool false]) ⟨[], []⟩) (brA (decide (((a0.size : Nat) : Int) > ((t0.size : Nat) : Int))) (k (.tup [.int .i64 (0 : Int), .bool false]) ⟨[], []⟩) (LP_61_0 k a0 t0 (0 : Int) (0 : Int)))) (LP_61_0 k a0 t0 (0 : Int) (0 : Int))) (none))) : Option Unit) := by kernel_rfl
def S_61_0 (N : Nat) : Prop := ∀ (k : AV tau → Mem tau → Option Unit) (x0 : ByteArray) (x1 : ByteArray) (x2 : Int) (x3 : Int) (r : Int × Bool), impl_integer.l0 N (x0) (x1) (x2) (x3) = some r → k (.tup [.int .i64 (r.1), .bool (r.2)]) ⟨[], []⟩ = some () → LP_61_0 k x0 x1 x2 x3 = some ()
theorem L_61 (N : Nat) : S_61_0 N := by
 induction N using Nat.strongRecOn with | _ N0 ih =>
 skip
 intro k x0 x1 x2 x3 r h hk
 rcases N0 with _ | N
 · cases h
 first | rw [impl_integer.l0] at h | simp only [impl_integer.l0] at h | (unfold impl_integer.l0 at h; dsimp only at h)
 refine loop_fold mC_61 mD_61 ?_
 refine (w_61_0 k x0 x1 x2 x3).trans ?_
 refine br_eti h rfl (fun c31 h => ?_) (fun c31 h => ?_)
 ·refine br_eti h rfl (fun c32 h => ?_) (fun c32 h => ?_)
  ·cases h; exact hk
  cases h; exact hk
 refine br_g h rfl (fun c33 h => ?_)
 refine br_g h rfl (fun c34 h => ?_)
 refine call_h 0 h (fun t1 e35 h => ?_)
 refine br_etn h (congrArg not dect) (fun c36 h => ?_) (fun c36 h => ?_)
 ·cases h; exact hk
 refine br_g h rfl (fun c37 h => ?_)
 refine br_g h rfl (fun c38 h => ?_)
 exact (ih N (by omega)) _ _ _ _ _ _ h hk
theorem okc_61 (args : List (AV tau)) (m : Mem tau) (κ : AV tau → Mem tau → Option Unit) (hh : c_61 args m κ = some ()) : ∃ av m1, κ av m1 = some () ∧ ToldA Tryd.prog TT (pnT 61) 61 args m av m1 := by
 obtain ⟨bx_, rw_⟩ := m
 unfold c_61 at hh
 simp only at hh
 split at hh
 case h_2 => cases hh
 rename_i b0
 obtain ⟨a0, hx0, hh0⟩ := bO_some hh
 have ex0 := asS_some hx0
 subst ex0
 obtain ⟨N, t, h, hκ⟩ := callX_some hh0
 refine ⟨_, _, hκ, told_of_run pq okC_61 (fun _ _ _ => drawA_ok pq okC_61 hmix) (E := E_61) (fn := Tryd.f61) (body := B_61) (by kernel_rfl) (by kernel_rfl) (by kernel_rfl) (by rfl) (by exact Nat.le_of_ble_eq_true rfl) (fun k hk => ?_)⟩
 refine (w_61 a0 k).trans ?_
 replace h : impl_integer.f N a0 = some t := h
 unfold impl_integer.f at h
 refine call_h N h (fun t0 e39 h => ?_)
 refine br_ite h rfl (fun c40 h => ?_) (fun c40 h => ?_)
 ·cases h; exact hk
 refine br_ite h rfl (fun c41 h => ?_) (fun c41 h => ?_)
 ·cases h; exact hk
 refine br_g h rfl (fun c42 h => ?_)
 refine br_eti h rfl (fun c43 h => ?_) (fun c43 h => ?_)
 ·exact (L_61 N) _ _ _ _ _ _ h hk
 refine br_ite h rfl (fun c44 h => ?_) (fun c44 h => ?_)
 ·cases h; exact hk
 refine br_eti h rfl (fun c45 h => ?_) (fun c45 h => ?_)
 ·exact (L_61 N) _ _ _ _ _ _ h hk
 cases h; exact hk
noncomputable def C_53 : Ctr tau Unit := ctrS 61 c_61 C_61
noncomputable def D_53 : Drw tau := drawA E_53 C_53
theorem okC_53 : CtrOk Tryd.prog TT pnT C_53 := ctrS_ok okC_61 okc_61
theorem mC_53 : CtrMono C_53 := ctrS_mono mC_61 mc_61
theorem mD_53 : DrMono D_53 := drawA_mono mC_53
noncomputable def B_53 : Code := Tryd.f53.body.getD .skip
theorem mc_53 (args : List (AV tau)) (m : Mem tau) (k k' : AV tau → Mem tau → Option Unit) (hk : ∀ av m, k av m = some () → k' av m = some ()) (h : c_53 args m k = some ()) : c_53 args m k' = some () := by
 unfold c_53 at h ⊢
 split at h
 · repeat' first | exact callX_mono (fun _ h => hk _ _ h) h | refine bO_mono (fun _ h => ?_) h
 · cases h
noncomputable def K_53_0 (k : AV tau → Mem tau → Option Unit) : Kon tau := (kBlock 0 (kS E_53 C_53 D_53 (codeP B_53 [1, 1, 1, 1]) (kEnd E_53 Tryd.f53 k)))
noncomputable def K_53_1 (k : AV tau → Mem tau → Option Unit) : Kon tau := (kBlock 2 (kS E_53 C_53 D_53 (codeP B_53 [1, 1, 1, 1, 1, 1, 1]) (kEnd E_53 Tryd.f53 k)))
def st_53_0 (x0 : ByteArray) (x1 : (List ByteArray)) (x2 : Int) (x3 : Int) (x4 : Int) (x5 : Int) (x6 : Int) (x7 : Int) (x8 : (List Int)) : St tau := ⟨tmL 102 0 [(0, .str x0), (2, .ptr 0 0), (5, .own 0 0), (16, .sl 9 x1), (17, .int .i64 x2), (18, .int .i64 x3)], ⟨[some (60, [.int .i64 x4, .int .i64 x5, .int .i64 x6, .int .i64 x7])], [some ⟨3, x8, 0⟩]⟩⟩
noncomputable def LP_53_0 (k : AV tau → Mem tau → Option Unit) (x0 : ByteArray) (x1 : (List ByteArray)) (x2 : Int) (x3 : Int) (x4 : Int) (x5 : Int) (x6 : Int) (x7 : Int) (x8 : (List Int)) : Option Unit := loopA E_53 (codeA E_53 C_53 D_53 (codeP B_53 [1, 1, 1, 0, 1, 0, 0])) (codeP B_53 [1, 1, 1, 0, 1, 0, 0]) (K_53_0 k) (st_53_0 x0 x1 x2 x3 x4 x5 x6 x7 x8)
def st_53_1 (x0 : ByteArray) (x1 : Int) (x2 : Int) (x3 : Int) (x4 : Int) (x5 : Int) (x6 : Int) (x7 : (List S60)) : St tau := ⟨tmL 102 0 [(0, .str x0), (2, .ptr 0 0), (85, .own 0 0), (86, .int .i64 x1), (87, .int .i64 x2)], ⟨[some (60, [.int .i64 x3, .int .i64 x4, .int .i64 x5, .int .i64 x6])], [some ⟨60, x7, 0⟩]⟩⟩
noncomputable def LP_53_1 (k : AV tau → Mem tau → Option Unit) (x0 : ByteArray) (x1 : Int) (x2 : Int) (x3 : Int) (x4 : Int) (x5 : Int) (x6 : Int) (x7 : (List S60)) : Option Unit := loopA E_53 (codeA E_53 C_53 D_53 (codeP B_53 [1, 1, 1, 1, 1, 1, 0, 1, 0, 0])) (codeP B_53 [1, 1, 1, 1, 1, 1, 0, 1, 0, 0]) (K_53_1 k) (st_53_1 x0 x1 x2 x3 x4 x5 x6 x7)
theorem w_53_0 (k : AV tau → Mem tau → Option Unit) (x0 : ByteArray) (x1 : (List ByteArray)) (x2 : Int) (x3 : Int) (x4 : Int) (x5 : Int) (x6 : Int) (x7 : Int) (x8 : (List Int)) : codeA E_53 C_53 D_53 (codeP B_53 [1, 1, 1, 0, 1, 0, 0]) (kL E_53 C_53 D_53 (codeP B_53 [1, 1, 1, 0, 1, 0, 0]) (K_53_0 k)) (st_53_0 x0 x1 x2 x3 x4 x5 x6 x7 x8) = (brA (decide (x3 < x2)) (brA (decide ((0 : Int) ≤ x3)) (brA (decide (x3 < ((x1.length : Nat) : Int))) (callX (fun n => impl_integer.f n (rdOf (default : ByteArray) x1 x3)) fun t1 => brA (!t1.2) (k (.tup [.agg [.int .i64 (0 : Int), .int .i64 (0 : Int), .int .i64 (0 : Int), .int .i64 (0 : Int)], .bool false]) ⟨[], []⟩) (brA (decide ((x8.length + 1) ≤ 17592186044416)) (LP_53_0 k x0 x1 x2 (wrap64 (x3 + (1 : Int))) x4 x5 x6 x7 (x8 ++ ([t1.1] : List Int))) (none))) (none)) (none)) (brA (decide ((x8.length + 3) ≤ 17592186044416)) (brA (decide ((0 : Int) < (((x8 ++ ([(0 : Int), (0 : Int), (0 : Int)] : List Int)).length : Nat) : Int))) (brA (decide ((1 : Int) < (((x8 ++ ([(0 : Int), (0 : Int), (0 : Int)] : List Int)).length : Nat) : Int))) (brA (decide ((0 : Int) < (((x8 ++ ([(0 : Int), (0 : Int), (0 : Int)] : List Int)).length : Nat) : Int))) (brA (decide ((1 : Int) < (((x8 ++ ([(0 : Int), (0 : Int), (0 : Int)] : List Int)).length : Nat) : Int))) (brA (decide ((0 : Int) < (((x8 ++ ([(0 : Int), (0 : Int), (0 : Int)] : List Int)).length : Nat) : Int))) (brA (decide ((1 : Int) < (((x8 ++ ([(0 : Int), (0 : Int), (0 : Int)] : List Int)).length : Nat) : Int))) (brA (decide ((0 : Int) < (((x8 ++ ([(0 : Int), (0 : Int), (0 : Int)] : List Int)).length : Nat) : Int))) (brA (decide ((1 : Int) < (((x8 ++ ([(0 : Int), (0 : Int), (0 : Int)] : List Int)).length : Nat) : Int))) (brA (decide ((0 : Int) < (((x8 ++ ([(0 : Int), (0 : Int), (0 : Int)] : List Int)).length : Nat) : Int))) (brA (decide ((1 : Int) < (((x8 ++ ([(0 : Int), (0 : Int), (0 : Int)] : List Int)).length : Nat) : Int))) (brA (decide ((0 : Int) < (((x8 ++ ([(0 : Int), (0 : Int), (0 : Int)] : List Int)).length : Nat) : Int))) (brA (decide ((1 : Int) < (((x8 ++ ([(0 : Int), (0 : Int), (0 : Int)] : List Int)).length : Nat) : Int))) (brA (decide ((2 : Int) < (((x8 ++ ([(0 : Int), (0 : Int), (0 : Int)] : List Int)).length : Nat) : Int))) (LP_53_1 k x0 (7 : Int) (0 : Int) x4 x5 x6 x7 ([(⟨(1 : Int), (rd (x8 ++ ([(0 : Int), (0 : Int), (0 : Int)] : List Int)) (0 : Int)), (rd (x8 ++ ([(0 : Int), (0 : Int), (0 : Int)] : List Int)) (1 : Int)), (0 : Int)⟩ : S60), (⟨(2 : Int), (rd (x8 ++ ([(0 : Int), (0 : Int), (0 : Int)] : List Int)) (0 : Int)), (rd (x8 ++ ([(0 : Int), (0 : Int), (0 : Int)] : List Int)) (1 : Int)), (0 : Int)⟩ : S60), (⟨(3 : Int), (rd (x8 ++ ([(0 : Int), (0 : Int), (0 : Int)] : List Int)) (0 : Int)), (0 : Int), (rd (x8 ++ ([(0 : Int), (0 : Int), (0 : Int)] : List Int)) (1 : Int))⟩ : S60), (⟨(4 : Int), (rd (x8 ++ ([(0 : Int), (0 : Int), (0 : Int)] : List Int)) (0 : Int)), (rd (x8 ++ ([(0 : Int), (0 : Int), (0 : Int)] : List Int)) (1 : Int)), (0 : Int)⟩ : S60), (⟨(5 : Int), (rd (x8 ++ ([(0 : Int), (0 : Int), (0 : Int)] : List Int)) (0 : Int)), (rd (x8 ++ ([(0 : Int), (0 : Int), (0 : Int)] : List Int)) (1 : Int)), (0 : Int)⟩ : S60), (⟨(6 : Int), (rd (x8 ++ ([(0 : Int), (0 : Int), (0 : Int)] : List Int)) (0 : Int)), (rd (x8 ++ ([(0 : Int), (0 : Int), (0 : Int)] : List Int)) (1 : Int)), (rd (x8 ++ ([(0 : Int), (0 : Int), (0 : Int)] : List Int)) (2 : Int))⟩ : S60), (⟨(7 : Int), (0 : Int), (0 : Int), (0 : Int)⟩ : S60)] : List S60)) (none)) (none)) (none)) (none)) (none)) (none)) (none)) (none)) (none)) (none)) (none)) (none)) (none)) (none)) : Option Unit) := by
 simp only [← wrapA_i64]
 kernel_rfl
theorem w_53_1 (k : AV tau → Mem tau → Option Unit) (x0 : ByteArray) (x1 : Int) (x2 : Int) (x3 : Int) (x4 : Int) (x5 : Int) (x6 : Int) (x7 : (List S60)) : codeA E_53 C_53 D_53 (codeP B_53 [1, 1, 1, 1, 1, 1, 0, 1, 0, 0]) (kL E_53 C_53 D_53 (codeP B_53 [1, 1, 1, 1, 1, 1, 0, 1, 0, 0]) (K_53_1 k)) (st_53_1 x0 x1 x2 x3 x4 x5 x6 x7) = (brA (decide (x2 < x1)) (brA (decide ((0 : Int) ≤ x2)) (brA (decide (x2 < ((x7.length : Nat) : Int))) (callX (fun n => impl_insOk.f n ((rd_T60 x7 x2).f0) ((rd_T60 x7 x2).f1) ((rd_T60 x7 x2).f2) ((rd_T60 x7 x2).f3)) fun t2 => brA t2 (callX (fun n => impl_insText.f n ((rd_T60 x7 x2).f0) ((rd_T60 x7 x2).f1) ((rd_T60 x7 x2).f2) ((rd_T60 x7 x2).f3)) fun t3 => brA (decide (t3 = x0)) (k (.tup [.agg [.int .i64 ((rd_T60 x7 x2).f0), .int .i64 ((rd_T60 x7 x2).f1), .int .i64 ((rd_T60 x7 x2).f2), .int .i64 ((rd_T60 x7 x2).f3)], .bool true]) ⟨[], []⟩) (LP_53_1 k x0 x1 (wrap64 (x2 + (1 : Int))) x3 x4 x5 x6 x7)) (LP_53_1 k x0 x1 (wrap64 (x2 + (1 : Int))) x3 x4 x5 x6 x7)) (none)) (none)) (k (.tup [.agg [.int .i64 (0 : Int), .int .i64 (0 : Int), .int .i64 (0 : Int), .int .i64 (0 : Int)], .bool false]) ⟨[], []⟩) : Option Unit) := by
 simp only [← wrapA_i64]
 kernel_rfl
theorem w_53 (a0 : ByteArray) (k : AV tau → Mem tau → Option Unit) : fnA E_53 C_53 D_53 Tryd.f53 B_53 [.str a0] ⟨[], []⟩ k = (callX (fun n => strings_Split.f n a0 (bs [32])) fun t0 => brA (decide ((1 : Int) ≤ ((t0.length : Nat) : Int))) (LP_53_0 k a0 (List.drop 1 t0) (((List.drop 1 t0).length : Nat) : Int) (0 : Int) (0 : Int) (0 : Int) (0 : Int) (0 : Int) ([] : List Int)) (none) : Option Unit) := by kernel_rfl
def S_53_0 (N : Nat) : Prop := ∀ (k : AV tau → Mem tau → Option Unit) (x0 : ByteArray) (x1 : (List ByteArray)) (x2 : Int) (x3 : Int) (x4 : Int) (x5 : Int) (x6 : Int) (x7 : Int) (x8 : (List Int)) (r : Int × Int × Int × Int × Bool), impl_insRead.l0 N (x0) (x1) (x2) (x3) (x4) (x5) (x6) (x7) (x8) = some r → k (.tup [.agg [.int .i64 (r.1), .int .i64 (r.2.1), .int .i64 (r.2.2.1), .int .i64 (r.2.2.2.1)], .bool (r.2.2.2.2)]) ⟨[], []⟩ = some () → LP_53_0 k x0 x1 x2 x3 x4 x5 x6 x7 x8 = some ()
def S_53_1 (N : Nat) : Prop := ∀ (k : AV tau → Mem tau → Option Unit) (x0 : ByteArray) (x1 : Int) (x2 : Int) (x3 : Int) (x4 : Int) (x5 : Int) (x6 : Int) (x7 : (List S60)) (r : Int × Int × Int × Int × Bool), impl_insRead.l1 N (x0) (x1) (x2) (x3) (x4) (x5) (x6) (x7) = some r → k (.tup [.agg [.int .i64 (r.1), .int .i64 (r.2.1), .int .i64 (r.2.2.1), .int .i64 (r.2.2.2.1)], .bool (r.2.2.2.2)]) ⟨[], []⟩ = some () → LP_53_1 k x0 x1 x2 x3 x4 x5 x6 x7 = some ()
theorem L_53 (N : Nat) : S_53_0 N ∧ S_53_1 N := by
 induction N using Nat.strongRecOn with | _ N0 ih =>
 refine ⟨?_, ?_⟩
 ·intro k x0 x1 x2 x3 x4 x5 x6 x7 x8 r h hk
  rcases N0 with _ | N
  · cases h
  first | rw [impl_insRead.l0] at h | simp only [impl_insRead.l0] at h | (unfold impl_insRead.l0 at h; dsimp only at h)
  refine loop_fold mC_53 mD_53 ?_
  refine (w_53_0 k x0 x1 x2 x3 x4 x5 x6 x7 x8).trans ?_
  refine br_ite h rfl (fun c59 h => ?_) (fun c59 h => ?_)
  ·refine br_g h rfl (fun c60 h => ?_)
   refine br_g h rfl (fun c61 h => ?_)
   refine call_h N h (fun t1 e62 h => ?_)
   refine br_etn h (congrArg not dect) (fun c63 h => ?_) (fun c63 h => ?_)
   ·cases h; exact hk
   refine br_g h rfl (fun c64 h => ?_)
   exact (ih N (by omega)).1 _ _ _ _ _ _ _ _ _ _ _ h hk
  refine br_g h rfl (fun c65 h => ?_)
  refine br_g h rfl (fun c66 h => ?_)
  refine br_g h rfl (fun c67 h => ?_)
  refine br_g h rfl (fun c68 h => ?_)
  refine br_g h rfl (fun c69 h => ?_)
  refine br_g h rfl (fun c70 h => ?_)
  refine br_g h rfl (fun c71 h => ?_)
  refine br_g h rfl (fun c72 h => ?_)
  refine br_g h rfl (fun c73 h => ?_)
  refine br_g h rfl (fun c74 h => ?_)
  refine br_g h rfl (fun c75 h => ?_)
  refine br_g h rfl (fun c76 h => ?_)
  refine br_g h rfl (fun c77 h => ?_)
  refine br_g h rfl (fun c78 h => ?_)
  exact (ih N (by omega)).2 _ _ _ _ _ _ _ _ _ _ h hk
 ·intro k x0 x1 x2 x3 x4 x5 x6 x7 r h hk
  rcases N0 with _ | N
  · cases h
  first | rw [impl_insRead.l1] at h | simp only [impl_insRead.l1] at h | (unfold impl_insRead.l1 at h; dsimp only at h)
  refine loop_fold mC_53 mD_53 ?_
  refine (w_53_1 k x0 x1 x2 x3 x4 x5 x6 x7).trans ?_
  refine br_eti h rfl (fun c79 h => ?_) (fun c79 h => ?_)
  ·cases h; exact hk
  refine br_g h rfl (fun c80 h => ?_)
  refine br_g h rfl (fun c81 h => ?_)
  refine call_h N h (fun t2 e82 h => ?_)
  refine br_eti h dect (fun c83 h => ?_) (fun c83 h => ?_)
  ·exact (ih N (by omega)).2 _ _ _ _ _ _ _ _ _ _ h hk
  refine call_h N h (fun t3 e84 h => ?_)
  refine br_eti h rfl (fun c85 h => ?_) (fun c85 h => ?_)
  ·exact (ih N (by omega)).2 _ _ _ _ _ _ _ _ _ _ h hk
  cases h; exact hk
theorem okc_53 (args : List (AV tau)) (m : Mem tau) (κ : AV tau → Mem tau → Option Unit) (hh : c_53 args m κ = some ()) : ∃ av m1, κ av m1 = some () ∧ ToldA Tryd.prog TT (pnT 53) 53 args m av m1 := by
 obtain ⟨bx_, rw_⟩ := m
 unfold c_53 at hh
 simp only at hh
 split at hh
 case h_2 => cases hh
 rename_i b0
 obtain ⟨a0, hx0, hh0⟩ := bO_some hh
 have ex0 := asS_some hx0
 subst ex0
 obtain ⟨N, t, h, hκ⟩ := callX_some hh0
 refine ⟨_, _, hκ, told_of_run pq okC_53 (fun _ _ _ => drawA_ok pq okC_53 hmix) (E := E_53) (fn := Tryd.f53) (body := B_53) (by kernel_rfl) (by kernel_rfl) (by kernel_rfl) (by rfl) (by exact Nat.le_of_ble_eq_true rfl) (fun k hk => ?_)⟩
 refine (w_53 a0 k).trans ?_
 replace h : impl_insRead.f N a0 = some t := h
 unfold impl_insRead.f at h
 refine call_h N h (fun t0 e86 h => ?_)
 refine br_g h rfl (fun c87 h => ?_)
 exact (L_53 N).1 _ _ _ _ _ _ _ _ _ _ _ h hk
noncomputable def C_12 : Ctr tau Unit := ctrS 53 c_53 C_53
noncomputable def D_12 : Drw tau := drawA E_12 C_12
theorem okC_12 : CtrOk Tryd.prog TT pnT C_12 := ctrS_ok okC_53 okc_53
theorem mC_12 : CtrMono C_12 := ctrS_mono mC_53 mc_53
theorem mD_12 : DrMono D_12 := drawA_mono mC_12
noncomputable def B_12 : Code := Tryd.f12.body.getD .skip
theorem mc_12 (args : List (AV tau)) (m : Mem tau) (k k' : AV tau → Mem tau → Option Unit) (hk : ∀ av m, k av m = some () → k' av m = some ()) (h : c_12 args m k = some ()) : c_12 args m k' = some () := by
 unfold c_12 at h ⊢
 split at h
 · repeat' first | exact callX_mono (fun _ h => hk _ _ h) h | refine bO_mono (fun _ h => ?_) h
 · cases h
noncomputable def K_12_0 (k : AV tau → Mem tau → Option Unit) : Kon tau := (kBlock 0 (kS E_12 C_12 D_12 (codeP B_12 [1, 1, 1, 1, 1]) (kEnd E_12 Tryd.f12 k)))
def st_12_0 (x0 : Int) (x1 : Int) (x2 : (List S60)) (x3 : (List ByteArray)) : St tau := ⟨tmL 38 0 [(4, .own 0 0), (15, .own 1 0), (16, .int .i64 x0), (17, .int .i64 x1)], ⟨[], [some ⟨60, x2, 0⟩, some ⟨9, x3, 0⟩]⟩⟩
noncomputable def LP_12_0 (k : AV tau → Mem tau → Option Unit) (x0 : Int) (x1 : Int) (x2 : (List S60)) (x3 : (List ByteArray)) : Option Unit := loopA E_12 (codeA E_12 C_12 D_12 (codeP B_12 [1, 1, 1, 1, 0, 1, 0, 0])) (codeP B_12 [1, 1, 1, 1, 0, 1, 0, 0]) (K_12_0 k) (st_12_0 x0 x1 x2 x3)
theorem w_12_0 (k : AV tau → Mem tau → Option Unit) (x0 : Int) (x1 : Int) (x2 : (List S60)) (x3 : (List ByteArray)) : codeA E_12 C_12 D_12 (codeP B_12 [1, 1, 1, 1, 0, 1, 0, 0]) (kL E_12 C_12 D_12 (codeP B_12 [1, 1, 1, 1, 0, 1, 0, 0]) (K_12_0 k)) (st_12_0 x0 x1 x2 x3) = (brA (decide (x1 < x0)) (brA (decide ((0 : Int) ≤ x1)) (brA (decide (x1 < ((x3.length : Nat) : Int))) (callX (fun n => impl_insRead.f n (rdOf (default : ByteArray) x3 x1)) fun t1 => brA (!t1.2.2.2.2) (k (.tup [.own 0 0, .bool false]) ⟨[], [some ⟨60, ([] : List S60), 0⟩]⟩) (brA (decide ((x2.length + 1) ≤ 4398046511104)) (LP_12_0 k x0 (wrap64 (x1 + (1 : Int))) (x2 ++ ([(⟨t1.1, t1.2.1, t1.2.2.1, t1.2.2.2.1⟩ : S60)] : List S60)) x3) (none))) (none)) (none)) (callX (fun n => impl_ProgOk.f n x2) fun t2 => brA (!t2) (k (.tup [.own 0 0, .bool false]) ⟨[], [some ⟨60, ([] : List S60), 0⟩]⟩) (callX (fun n => impl_copied_impl_Ins.f x2) fun t3 => k (.tup [.own 0 0, .bool true]) ⟨[], [some ⟨60, t3, 0⟩]⟩)) : Option Unit) := by
 simp only [← wrapA_i64]
 kernel_rfl
theorem w_12 (a0 : ByteArray) (k : AV tau → Mem tau → Option Unit) : fnA E_12 C_12 D_12 Tryd.f12 B_12 [.str a0] ⟨[], []⟩ k = (brA (decide (((a0.size : Nat) : Int) > (400 : Int))) (k (.tup [.own 0 0, .bool false]) ⟨[], [some ⟨60, ([] : List S60), 0⟩]⟩) (brA (decide (a0 = (bs []))) (k (.tup [.own 0 0, .bool true]) ⟨[], [some ⟨60, ([] : List S60), 0⟩]⟩) (callX (fun n => strings_Split.f n a0 (bs [44])) fun t0 => LP_12_0 k ((t0.length : Nat) : Int) (0 : Int) ([] : List S60) t0)) : Option Unit) := by kernel_rfl
def S_12_0 (N : Nat) : Prop := ∀ (k : AV tau → Mem tau → Option Unit) (x0 : Int) (x1 : Int) (x2 : (List S60)) (x3 : (List ByteArray)) (r : (List S60) × Bool), impl_ProgRead.l0 N (x0) (x1) (x2) (x3) = some r → k (.tup [.own 0 0, .bool (r.2)]) ⟨[], [some ⟨60, r.1, 0⟩]⟩ = some () → LP_12_0 k x0 x1 x2 x3 = some ()
theorem L_12 (N : Nat) : S_12_0 N := by
 induction N using Nat.strongRecOn with | _ N0 ih =>
 skip
 intro k x0 x1 x2 x3 r h hk
 rcases N0 with _ | N
 · cases h
 first | rw [impl_ProgRead.l0] at h | simp only [impl_ProgRead.l0] at h | (unfold impl_ProgRead.l0 at h; dsimp only at h)
 refine loop_fold mC_12 mD_12 ?_
 refine (w_12_0 k x0 x1 x2 x3).trans ?_
 refine br_eti h rfl (fun c25 h => ?_) (fun c25 h => ?_)
 ·refine call_h N h (fun t2 e26 h => ?_)
  refine br_etn h (congrArg not dect) (fun c27 h => ?_) (fun c27 h => ?_)
  ·cases h; exact hk
  refine call_h 0 h (fun t3 e28 h => ?_)
  cases h; exact hk
 refine br_g h rfl (fun c29 h => ?_)
 refine br_g h rfl (fun c30 h => ?_)
 refine call_h N h (fun t1 e31 h => ?_)
 refine br_etn h (congrArg not dect) (fun c32 h => ?_) (fun c32 h => ?_)
 ·cases h; exact hk
 refine br_g h rfl (fun c33 h => ?_)
 exact (ih N (by omega)) _ _ _ _ _ _ h hk
theorem okc_12 (args : List (AV tau)) (m : Mem tau) (κ : AV tau → Mem tau → Option Unit) (hh : c_12 args m κ = some ()) : ∃ av m1, κ av m1 = some () ∧ ToldA Tryd.prog TT (pnT 12) 12 args m av m1 := by
 obtain ⟨bx_, rw_⟩ := m
 unfold c_12 at hh
 simp only at hh
 split at hh
 case h_2 => cases hh
 rename_i b0
 obtain ⟨a0, hx0, hh0⟩ := bO_some hh
 have ex0 := asS_some hx0
 subst ex0
 obtain ⟨N, t, h, hκ⟩ := callX_some hh0
 refine ⟨_, _, hκ, told_of_run pq okC_12 (fun _ _ _ => drawA_ok pq okC_12 hmix) (E := E_12) (fn := Tryd.f12) (body := B_12) (by kernel_rfl) (by kernel_rfl) (by kernel_rfl) (by rfl) (by exact Nat.le_of_ble_eq_true rfl) (fun k hk => ?_)⟩
 refine (w_12 a0 k).trans ?_
 replace h : impl_ProgRead.f N a0 = some t := h
 unfold impl_ProgRead.f at h
 refine br_ite h rfl (fun c34 h => ?_) (fun c34 h => ?_)
 ·cases h; exact hk
 refine br_ite h rfl (fun c35 h => ?_) (fun c35 h => ?_)
 ·cases h; exact hk
 refine call_h N h (fun t0 e36 h => ?_)
 exact (L_12 N) _ _ _ _ _ _ h hk
noncomputable def C_82 : Ctr tau Unit := ctrS 12 c_12 C_12
noncomputable def D_82 : Drw tau := drawA E_82 C_82
theorem okC_82 : CtrOk Tryd.prog TT pnT C_82 := ctrS_ok okC_12 okc_12
theorem mC_82 : CtrMono C_82 := ctrS_mono mC_12 mc_12
theorem mD_82 : DrMono D_82 := drawA_mono mC_82
noncomputable def B_82 : Code := Tryd.f82.body.getD .skip
theorem mc_82 (args : List (AV tau)) (m : Mem tau) (k k' : AV tau → Mem tau → Option Unit) (hk : ∀ av m, k av m = some () → k' av m = some ()) (h : c_82 args m k = some ()) : c_82 args m k' = some () := by
 unfold c_82 at h ⊢
 split at h
 · repeat' first | exact callX_mono (fun _ h => hk _ _ h) h | refine bO_mono (fun _ h => ?_) h
 · cases h
theorem w_82  (k : AV tau → Mem tau → Option Unit) : fnA E_82 C_82 D_82 Tryd.f82 B_82 [] ⟨[], []⟩ k = (k (.own 0 0) ⟨[], [some ⟨9, ([(bs []), (bs [108, 111, 97, 100]), (bs [112, 117, 116]), (bs [110, 117, 109]), (bs [97, 100, 100]), (bs [115, 117, 98]), (bs [108, 101, 115, 115]), (bs [102, 97, 105, 108])] : List ByteArray), 0⟩]⟩ : Option Unit) := by kernel_rfl
theorem okc_82 (args : List (AV tau)) (m : Mem tau) (κ : AV tau → Mem tau → Option Unit) (hh : c_82 args m κ = some ()) : ∃ av m1, κ av m1 = some () ∧ ToldA Tryd.prog TT (pnT 82) 82 args m av m1 := by
 obtain ⟨bx_, rw_⟩ := m
 unfold c_82 at hh
 simp only at hh
 split at hh
 case h_2 => cases hh
 obtain ⟨N, t, h, hκ⟩ := callX_some hh
 refine ⟨_, _, hκ, told_of_run pq okC_82 (fun _ _ _ => drawA_ok pq okC_82 hmix) (E := E_82) (fn := Tryd.f82) (body := B_82) (by kernel_rfl) (by kernel_rfl) (by kernel_rfl) (by rfl) (by exact Nat.le_of_ble_eq_true rfl) (fun k hk => ?_)⟩
 refine (w_82 k).trans ?_
 replace h : spec_l2Words.f N = some t := h
 unfold spec_l2Words.f at h
 cases h; exact hk
noncomputable def C_73 : Ctr tau Unit := ctrS 82 c_82 C_82
noncomputable def D_73 : Drw tau := drawA E_73 C_73
theorem okC_73 : CtrOk Tryd.prog TT pnT C_73 := ctrS_ok okC_82 okc_82
theorem mC_73 : CtrMono C_73 := ctrS_mono mC_82 mc_82
theorem mD_73 : DrMono D_73 := drawA_mono mC_73
noncomputable def B_73 : Code := Tryd.f73.body.getD .skip
theorem mc_73 (args : List (AV tau)) (m : Mem tau) (k k' : AV tau → Mem tau → Option Unit) (hk : ∀ av m, k av m = some () → k' av m = some ()) (h : c_73 args m k = some ()) : c_73 args m k' = some () := by
 unfold c_73 at h ⊢
 split at h
 · repeat' first | exact callX_mono (fun _ h => hk _ _ h) h | refine bO_mono (fun _ h => ?_) h
 · cases h
theorem w_73 (a0_0 : Int) (a0_1 : Int) (a0_2 : Int) (a0_3 : Int) (k : AV tau → Mem tau → Option Unit) : fnA E_73 C_73 D_73 Tryd.f73 B_73 [.agg [.int .i64 a0_0, .int .i64 a0_1, .int .i64 a0_2, .int .i64 a0_3]] ⟨[], []⟩ k = (brA (decide (a0_0 = (1 : Int))) (brA (decide (a0_0 = (1 : Int))) (callX (fun n => spec_l2Words.f n) fun t0 => brA (decide ((0 : Int) ≤ a0_0)) (brA (decide (a0_0 < ((t0.length : Nat) : Int))) (brA (decide (((rdOf (default : ByteArray) t0 a0_0).size + 1) ≤ 9223372036854775807)) (callX (fun n => spec_l15Dec.f n a0_1) fun t1 => brA (decide ((((rdOf (default : ByteArray) t0 a0_0) ++ (bs [32])).size + t1.size) ≤ 9223372036854775807)) (brA (decide (((((rdOf (default : ByteArray) t0 a0_0) ++ (bs [32])) ++ t1).size + 1) ≤ 9223372036854775807)) (callX (fun n => spec_l15Dec.f n a0_2) fun t2 => brA (decide ((((((rdOf (default : ByteArray) t0 a0_0) ++ (bs [32])) ++ t1) ++ (bs [32])).size + t2.size) ≤ 9223372036854775807)) (k (.str (((((rdOf (default : ByteArray) t0 a0_0) ++ (bs [32])) ++ t1) ++ (bs [32])) ++ t2)) ⟨[], []⟩) (none)) (none)) (none)) (none)) (none)) (none)) (brA (decide (a0_0 = (3 : Int))) (callX (fun n => spec_l15Dec.f n a0_1) fun t3 => brA (decide ((4 + t3.size) ≤ 9223372036854775807)) (brA (decide ((((bs [110, 117, 109, 32]) ++ t3).size + 1) ≤ 9223372036854775807)) (callX (fun n => spec_l15Dec.f n a0_3) fun t4 => brA (decide (((((bs [110, 117, 109, 32]) ++ t3) ++ (bs [32])).size + t4.size) ≤ 9223372036854775807)) (k (.str ((((bs [110, 117, 109, 32]) ++ t3) ++ (bs [32])) ++ t4)) ⟨[], []⟩) (none)) (none)) (none)) (brA (decide (a0_0 = (6 : Int))) (callX (fun n => spec_l15Dec.f n a0_1) fun t5 => brA (decide ((5 + t5.size) ≤ 9223372036854775807)) (brA (decide ((((bs [108, 101, 115, 115, 32]) ++ t5).size + 1) ≤ 9223372036854775807)) (callX (fun n => spec_l15Dec.f n a0_2) fun t6 => brA (decide (((((bs [108, 101, 115, 115, 32]) ++ t5) ++ (bs [32])).size + t6.size) ≤ 9223372036854775807)) (brA (decide ((((((bs [108, 101, 115, 115, 32]) ++ t5) ++ (bs [32])) ++ t6).size + 1) ≤ 9223372036854775807)) (callX (fun n => spec_l15Dec.f n a0_3) fun t7 => brA (decide (((((((bs [108, 101, 115, 115, 32]) ++ t5) ++ (bs [32])) ++ t6) ++ (bs [32])).size + t7.size) ≤ 9223372036854775807)) (k (.str ((((((bs [108, 101, 115, 115, 32]) ++ t5) ++ (bs [32])) ++ t6) ++ (bs [32])) ++ t7)) ⟨[], []⟩) (none)) (none)) (none)) (none)) (none)) (brA (decide (a0_0 = (7 : Int))) (k (.str (bs [102, 97, 105, 108])) ⟨[], []⟩) (k (.str (bs [110, 111, 110, 101])) ⟨[], []⟩))))) (brA (decide (a0_0 = (2 : Int))) (brA (decide (a0_0 = (2 : Int))) (callX (fun n => spec_l2Words.f n) fun t8 => brA (decide ((0 : Int) ≤ a0_0)) (brA (decide (a0_0 < ((t8.length : Nat) : Int))) (brA (decide (((rdOf (default : ByteArray) t8 a0_0).size + 1) ≤ 9223372036854775807)) (callX (fun n => spec_l15Dec.f n a0_1) fun t9 => brA (decide ((((rdOf (default : ByteArray) t8 a0_0) ++ (bs [32])).size + t9.size) ≤ 9223372036854775807)) (brA (decide (((((rdOf (default : ByteArray) t8 a0_0) ++ (bs [32])) ++ t9).size + 1) ≤ 9223372036854775807)) (callX (fun n => spec_l15Dec.f n a0_2) fun t10 => brA (decide ((((((rdOf (default : ByteArray) t8 a0_0) ++ (bs [32])) ++ t9) ++ (bs [32])).size + t10.size) ≤ 9223372036854775807)) (k (.str (((((rdOf (default : ByteArray) t8 a0_0) ++ (bs [32])) ++ t9) ++ (bs [32])) ++ t10)) ⟨[], []⟩) (none)) (none)) (none)) (none)) (none)) (none)) (brA (decide (a0_0 = (3 : Int))) (callX (fun n => spec_l15Dec.f n a0_1) fun t11 => brA (decide ((4 + t11.size) ≤ 9223372036854775807)) (brA (decide ((((bs [110, 117, 109, 32]) ++ t11).size + 1) ≤ 9223372036854775807)) (callX (fun n => spec_l15Dec.f n a0_3) fun t12 => brA (decide (((((bs [110, 117, 109, 32]) ++ t11) ++ (bs [32])).size + t12.size) ≤ 9223372036854775807)) (k (.str ((((bs [110, 117, 109, 32]) ++ t11) ++ (bs [32])) ++ t12)) ⟨[], []⟩) (none)) (none)) (none)) (brA (decide (a0_0 = (6 : Int))) (callX (fun n => spec_l15Dec.f n a0_1) fun t13 => brA (decide ((5 + t13.size) ≤ 9223372036854775807)) (brA (decide ((((bs [108, 101, 115, 115, 32]) ++ t13).size + 1) ≤ 9223372036854775807)) (callX (fun n => spec_l15Dec.f n a0_2) fun t14 => brA (decide (((((bs [108, 101, 115, 115, 32]) ++ t13) ++ (bs [32])).size + t14.size) ≤ 9223372036854775807)) (brA (decide ((((((bs [108, 101, 115, 115, 32]) ++ t13) ++ (bs [32])) ++ t14).size + 1) ≤ 9223372036854775807)) (callX (fun n => spec_l15Dec.f n a0_3) fun t15 => brA (decide (((((((bs [108, 101, 115, 115, 32]) ++ t13) ++ (bs [32])) ++ t14) ++ (bs [32])).size + t15.size) ≤ 9223372036854775807)) (k (.str ((((((bs [108, 101, 115, 115, 32]) ++ t13) ++ (bs [32])) ++ t14) ++ (bs [32])) ++ t15)) ⟨[], []⟩) (none)) (none)) (none)) (none)) (none)) (brA (decide (a0_0 = (7 : Int))) (k (.str (bs [102, 97, 105, 108])) ⟨[], []⟩) (k (.str (bs [110, 111, 110, 101])) ⟨[], []⟩))))) (brA (decide (a0_0 = (4 : Int))) (brA (decide (a0_0 = (4 : Int))) (callX (fun n => spec_l2Words.f n) fun t16 => brA (decide ((0 : Int) ≤ a0_0)) (brA (decide (a0_0 < ((t16.length : Nat) : Int))) (brA (decide (((rdOf (default : ByteArray) t16 a0_0).size + 1) ≤ 9223372036854775807)) (callX (fun n => spec_l15Dec.f n a0_1) fun t17 => brA (decide ((((rdOf (default : ByteArray) t16 a0_0) ++ (bs [32])).size + t17.size) ≤ 9223372036854775807)) (brA (decide (((((rdOf (default : ByteArray) t16 a0_0) ++ (bs [32])) ++ t17).size + 1) ≤ 9223372036854775807)) (callX (fun n => spec_l15Dec.f n a0_2) fun t18 => brA (decide ((((((rdOf (default : ByteArray) t16 a0_0) ++ (bs [32])) ++ t17) ++ (bs [32])).size + t18.size) ≤ 9223372036854775807)) (k (.str (((((rdOf (default : ByteArray) t16 a0_0) ++ (bs [32])) ++ t17) ++ (bs [32])) ++ t18)) ⟨[], []⟩) (none)) (none)) (none)) (none)) (none)) (none)) (brA (decide (a0_0 = (3 : Int))) (callX (fun n => spec_l15Dec.f n a0_1) fun t19 => brA (decide ((4 + t19.size) ≤ 9223372036854775807)) (brA (decide ((((bs [110, 117, 109, 32]) ++ t19).size + 1) ≤ 9223372036854775807)) (callX (fun n => spec_l15Dec.f n a0_3) fun t20 => brA (decide (((((bs [110, 117, 109, 32]) ++ t19) ++ (bs [32])).size + t20.size) ≤ 9223372036854775807)) (k (.str ((((bs [110, 117, 109, 32]) ++ t19) ++ (bs [32])) ++ t20)) ⟨[], []⟩) (none)) (none)) (none)) (brA (decide (a0_0 = (6 : Int))) (callX (fun n => spec_l15Dec.f n a0_1) fun t21 => brA (decide ((5 + t21.size) ≤ 9223372036854775807)) (brA (decide ((((bs [108, 101, 115, 115, 32]) ++ t21).size + 1) ≤ 9223372036854775807)) (callX (fun n => spec_l15Dec.f n a0_2) fun t22 => brA (decide (((((bs [108, 101, 115, 115, 32]) ++ t21) ++ (bs [32])).size + t22.size) ≤ 9223372036854775807)) (brA (decide ((((((bs [108, 101, 115, 115, 32]) ++ t21) ++ (bs [32])) ++ t22).size + 1) ≤ 9223372036854775807)) (callX (fun n => spec_l15Dec.f n a0_3) fun t23 => brA (decide (((((((bs [108, 101, 115, 115, 32]) ++ t21) ++ (bs [32])) ++ t22) ++ (bs [32])).size + t23.size) ≤ 9223372036854775807)) (k (.str ((((((bs [108, 101, 115, 115, 32]) ++ t21) ++ (bs [32])) ++ t22) ++ (bs [32])) ++ t23)) ⟨[], []⟩) (none)) (none)) (none)) (none)) (none)) (brA (decide (a0_0 = (7 : Int))) (k (.str (bs [102, 97, 105, 108])) ⟨[], []⟩) (k (.str (bs [110, 111, 110, 101])) ⟨[], []⟩))))) (brA (decide (a0_0 = (5 : Int))) (callX (fun n => spec_l2Words.f n) fun t24 => brA (decide ((0 : Int) ≤ a0_0)) (brA (decide (a0_0 < ((t24.length : Nat) : Int))) (brA (decide (((rdOf (default : ByteArray) t24 a0_0).size + 1) ≤ 9223372036854775807)) (callX (fun n => spec_l15Dec.f n a0_1) fun t25 => brA (decide ((((rdOf (default : ByteArray) t24 a0_0) ++ (bs [32])).size + t25.size) ≤ 9223372036854775807)) (brA (decide (((((rdOf (default : ByteArray) t24 a0_0) ++ (bs [32])) ++ t25).size + 1) ≤ 9223372036854775807)) (callX (fun n => spec_l15Dec.f n a0_2) fun t26 => brA (decide ((((((rdOf (default : ByteArray) t24 a0_0) ++ (bs [32])) ++ t25) ++ (bs [32])).size + t26.size) ≤ 9223372036854775807)) (k (.str (((((rdOf (default : ByteArray) t24 a0_0) ++ (bs [32])) ++ t25) ++ (bs [32])) ++ t26)) ⟨[], []⟩) (none)) (none)) (none)) (none)) (none)) (none)) (brA (decide (a0_0 = (3 : Int))) (callX (fun n => spec_l15Dec.f n a0_1) fun t27 => brA (decide ((4 + t27.size) ≤ 9223372036854775807)) (brA (decide ((((bs [110, 117, 109, 32]) ++ t27).size + 1) ≤ 9223372036854775807)) (callX (fun n => spec_l15Dec.f n a0_3) fun t28 => brA (decide (((((bs [110, 117, 109, 32]) ++ t27) ++ (bs [32])).size + t28.size) ≤ 9223372036854775807)) (k (.str ((((bs [110, 117, 109, 32]) ++ t27) ++ (bs [32])) ++ t28)) ⟨[], []⟩) (none)) (none)) (none)) (brA (decide (a0_0 = (6 : Int))) (callX (fun n => spec_l15Dec.f n a0_1) fun t29 => brA (decide ((5 + t29.size) ≤ 9223372036854775807)) (brA (decide ((((bs [108, 101, 115, 115, 32]) ++ t29).size + 1) ≤ 9223372036854775807)) (callX (fun n => spec_l15Dec.f n a0_2) fun t30 => brA (decide (((((bs [108, 101, 115, 115, 32]) ++ t29) ++ (bs [32])).size + t30.size) ≤ 9223372036854775807)) (brA (decide ((((((bs [108, 101, 115, 115, 32]) ++ t29) ++ (bs [32])) ++ t30).size + 1) ≤ 9223372036854775807)) (callX (fun n => spec_l15Dec.f n a0_3) fun t31 => brA (decide (((((((bs [108, 101, 115, 115, 32]) ++ t29) ++ (bs [32])) ++ t30) ++ (bs [32])).size + t31.size) ≤ 9223372036854775807)) (k (.str ((((((bs [108, 101, 115, 115, 32]) ++ t29) ++ (bs [32])) ++ t30) ++ (bs [32])) ++ t31)) ⟨[], []⟩) (none)) (none)) (none)) (none)) (none)) (brA (decide (a0_0 = (7 : Int))) (k (.str (bs [102, 97, 105, 108])) ⟨[], []⟩) (k (.str (bs [110, 111, 110, 101])) ⟨[], []⟩))))))) : Option Unit) := by kernel_rfl
theorem okc_73 (args : List (AV tau)) (m : Mem tau) (κ : AV tau → Mem tau → Option Unit) (hh : c_73 args m κ = some ()) : ∃ av m1, κ av m1 = some () ∧ ToldA Tryd.prog TT (pnT 73) 73 args m av m1 := by
 obtain ⟨bx_, rw_⟩ := m
 unfold c_73 at hh
 simp only at hh
 split at hh
 case h_2 => cases hh
 rename_i b0 b1 b2 b3
 obtain ⟨a0_0, hx0, hh0⟩ := bO_some hh
 obtain ⟨a0_1, hx1, hh1⟩ := bO_some hh0
 obtain ⟨a0_2, hx2, hh2⟩ := bO_some hh1
 obtain ⟨a0_3, hx3, hh3⟩ := bO_some hh2
 have ex0 := asI_some hx0
 have ex1 := asI_some hx1
 have ex2 := asI_some hx2
 have ex3 := asI_some hx3
 subst ex0 ex1 ex2 ex3
 obtain ⟨N, t, h, hκ⟩ := callX_some hh3
 refine ⟨_, _, hκ, told_of_run pq okC_73 (fun _ _ _ => drawA_ok pq okC_73 hmix) (E := E_73) (fn := Tryd.f73) (body := B_73) (by kernel_rfl) (by kernel_rfl) (by kernel_rfl) (by rfl) (by exact Nat.le_of_ble_eq_true rfl) (fun k hk => ?_)⟩
 refine (w_73 a0_0 a0_1 a0_2 a0_3 k).trans ?_
 replace h : spec_l2Text.f N a0_0 a0_1 a0_2 a0_3 = some t := h
 unfold spec_l2Text.f at h
 refine br_ite h rfl (fun c108 h => ?_) (fun c108 h => ?_)
 ·refine br_ite h rfl (fun c109 h => ?_) (fun c109 h => ?_)
  ·refine call_h N h (fun t0 e110 h => ?_)
   refine br_g h rfl (fun c111 h => ?_)
   refine br_g h rfl (fun c112 h => ?_)
   refine br_g h rfl (fun c113 h => ?_)
   refine call_h N h (fun t1 e114 h => ?_)
   refine br_g h rfl (fun c115 h => ?_)
   refine br_g h rfl (fun c116 h => ?_)
   refine call_h N h (fun t2 e117 h => ?_)
   refine br_g h rfl (fun c118 h => ?_)
   cases h; exact hk
  refine br_ite h rfl (fun c119 h => ?_) (fun c119 h => ?_)
  ·refine call_h N h (fun t3 e120 h => ?_)
   refine br_g h rfl (fun c121 h => ?_)
   refine br_g h rfl (fun c122 h => ?_)
   refine call_h N h (fun t4 e123 h => ?_)
   refine br_g h rfl (fun c124 h => ?_)
   cases h; exact hk
  refine br_eti h rfl (fun c125 h => ?_) (fun c125 h => ?_)
  ·refine br_ite h rfl (fun c126 h => ?_) (fun c126 h => ?_)
   ·cases h; exact hk
   cases h; exact hk
  refine call_h N h (fun t5 e127 h => ?_)
  refine br_g h rfl (fun c128 h => ?_)
  refine br_g h rfl (fun c129 h => ?_)
  refine call_h N h (fun t6 e130 h => ?_)
  refine br_g h rfl (fun c131 h => ?_)
  refine br_g h rfl (fun c132 h => ?_)
  refine call_h N h (fun t7 e133 h => ?_)
  refine br_g h rfl (fun c134 h => ?_)
  cases h; exact hk
 refine br_ite h rfl (fun c135 h => ?_) (fun c135 h => ?_)
 ·refine br_ite h rfl (fun c136 h => ?_) (fun c136 h => ?_)
  ·refine call_h N h (fun t8 e137 h => ?_)
   refine br_g h rfl (fun c138 h => ?_)
   refine br_g h rfl (fun c139 h => ?_)
   refine br_g h rfl (fun c140 h => ?_)
   refine call_h N h (fun t9 e141 h => ?_)
   refine br_g h rfl (fun c142 h => ?_)
   refine br_g h rfl (fun c143 h => ?_)
   refine call_h N h (fun t10 e144 h => ?_)
   refine br_g h rfl (fun c145 h => ?_)
   cases h; exact hk
  refine br_ite h rfl (fun c146 h => ?_) (fun c146 h => ?_)
  ·refine call_h N h (fun t11 e147 h => ?_)
   refine br_g h rfl (fun c148 h => ?_)
   refine br_g h rfl (fun c149 h => ?_)
   refine call_h N h (fun t12 e150 h => ?_)
   refine br_g h rfl (fun c151 h => ?_)
   cases h; exact hk
  refine br_eti h rfl (fun c152 h => ?_) (fun c152 h => ?_)
  ·refine br_ite h rfl (fun c153 h => ?_) (fun c153 h => ?_)
   ·cases h; exact hk
   cases h; exact hk
  refine call_h N h (fun t13 e154 h => ?_)
  refine br_g h rfl (fun c155 h => ?_)
  refine br_g h rfl (fun c156 h => ?_)
  refine call_h N h (fun t14 e157 h => ?_)
  refine br_g h rfl (fun c158 h => ?_)
  refine br_g h rfl (fun c159 h => ?_)
  refine call_h N h (fun t15 e160 h => ?_)
  refine br_g h rfl (fun c161 h => ?_)
  cases h; exact hk
 refine br_ite h rfl (fun c162 h => ?_) (fun c162 h => ?_)
 ·refine br_ite h rfl (fun c163 h => ?_) (fun c163 h => ?_)
  ·refine call_h N h (fun t16 e164 h => ?_)
   refine br_g h rfl (fun c165 h => ?_)
   refine br_g h rfl (fun c166 h => ?_)
   refine br_g h rfl (fun c167 h => ?_)
   refine call_h N h (fun t17 e168 h => ?_)
   refine br_g h rfl (fun c169 h => ?_)
   refine br_g h rfl (fun c170 h => ?_)
   refine call_h N h (fun t18 e171 h => ?_)
   refine br_g h rfl (fun c172 h => ?_)
   cases h; exact hk
  refine br_ite h rfl (fun c173 h => ?_) (fun c173 h => ?_)
  ·refine call_h N h (fun t19 e174 h => ?_)
   refine br_g h rfl (fun c175 h => ?_)
   refine br_g h rfl (fun c176 h => ?_)
   refine call_h N h (fun t20 e177 h => ?_)
   refine br_g h rfl (fun c178 h => ?_)
   cases h; exact hk
  refine br_eti h rfl (fun c179 h => ?_) (fun c179 h => ?_)
  ·refine br_ite h rfl (fun c180 h => ?_) (fun c180 h => ?_)
   ·cases h; exact hk
   cases h; exact hk
  refine call_h N h (fun t21 e181 h => ?_)
  refine br_g h rfl (fun c182 h => ?_)
  refine br_g h rfl (fun c183 h => ?_)
  refine call_h N h (fun t22 e184 h => ?_)
  refine br_g h rfl (fun c185 h => ?_)
  refine br_g h rfl (fun c186 h => ?_)
  refine call_h N h (fun t23 e187 h => ?_)
  refine br_g h rfl (fun c188 h => ?_)
  cases h; exact hk
 refine br_ite h rfl (fun c189 h => ?_) (fun c189 h => ?_)
 ·refine call_h N h (fun t24 e190 h => ?_)
  refine br_g h rfl (fun c191 h => ?_)
  refine br_g h rfl (fun c192 h => ?_)
  refine br_g h rfl (fun c193 h => ?_)
  refine call_h N h (fun t25 e194 h => ?_)
  refine br_g h rfl (fun c195 h => ?_)
  refine br_g h rfl (fun c196 h => ?_)
  refine call_h N h (fun t26 e197 h => ?_)
  refine br_g h rfl (fun c198 h => ?_)
  cases h; exact hk
 refine br_ite h rfl (fun c199 h => ?_) (fun c199 h => ?_)
 ·refine call_h N h (fun t27 e200 h => ?_)
  refine br_g h rfl (fun c201 h => ?_)
  refine br_g h rfl (fun c202 h => ?_)
  refine call_h N h (fun t28 e203 h => ?_)
  refine br_g h rfl (fun c204 h => ?_)
  cases h; exact hk
 refine br_eti h rfl (fun c205 h => ?_) (fun c205 h => ?_)
 ·refine br_ite h rfl (fun c206 h => ?_) (fun c206 h => ?_)
  ·cases h; exact hk
  cases h; exact hk
 refine call_h N h (fun t29 e207 h => ?_)
 refine br_g h rfl (fun c208 h => ?_)
 refine br_g h rfl (fun c209 h => ?_)
 refine call_h N h (fun t30 e210 h => ?_)
 refine br_g h rfl (fun c211 h => ?_)
 refine br_g h rfl (fun c212 h => ?_)
 refine call_h N h (fun t31 e213 h => ?_)
 refine br_g h rfl (fun c214 h => ?_)
 cases h; exact hk
noncomputable def C_28 : Ctr tau Unit := ctrS 73 c_73 C_73
noncomputable def D_28 : Drw tau := drawA E_28 C_28
theorem okC_28 : CtrOk Tryd.prog TT pnT C_28 := ctrS_ok okC_73 okc_73
theorem mC_28 : CtrMono C_28 := ctrS_mono mC_73 mc_73
theorem mD_28 : DrMono D_28 := drawA_mono mC_28
noncomputable def B_28 : Code := Tryd.f28.body.getD .skip
theorem mc_28 (args : List (AV tau)) (m : Mem tau) (k k' : AV tau → Mem tau → Option Unit) (hk : ∀ av m, k av m = some () → k' av m = some ()) (h : c_28 args m k = some ()) : c_28 args m k' = some () := by
 unfold c_28 at h ⊢
 split at h
 · repeat' first | exact callX_mono (fun _ h => hk _ _ h) h | refine bO_mono (fun _ h => ?_) h
 · cases h
noncomputable def K_28_0 (k : AV tau → Mem tau → Option Unit) : Kon tau := (kBlock 0 (kS E_28 C_28 D_28 (codeP B_28 [1, 1, 1]) (kEnd E_28 Tryd.f28 k)))
def st_28_0 (x0 : (List S60)) (x1 : ByteArray) (x2 : Int) : St tau := ⟨tmL 23 0 [(0, .sl 60 x0), (3, .str x1), (4, .int .i64 x2)], ⟨[], []⟩⟩
noncomputable def LP_28_0 (k : AV tau → Mem tau → Option Unit) (x0 : (List S60)) (x1 : ByteArray) (x2 : Int) : Option Unit := loopA E_28 (codeA E_28 C_28 D_28 (codeP B_28 [1, 1, 0, 1, 0, 0])) (codeP B_28 [1, 1, 0, 1, 0, 0]) (K_28_0 k) (st_28_0 x0 x1 x2)
theorem w_28_0 (k : AV tau → Mem tau → Option Unit) (x0 : (List S60)) (x1 : ByteArray) (x2 : Int) : codeA E_28 C_28 D_28 (codeP B_28 [1, 1, 0, 1, 0, 0]) (kL E_28 C_28 D_28 (codeP B_28 [1, 1, 0, 1, 0, 0]) (K_28_0 k)) (st_28_0 x0 x1 x2) = (brA (decide (x2 < ((x0.length : Nat) : Int))) (brA (decide (x2 > (0 : Int))) (brA (decide ((x1.size + 1) ≤ 9223372036854775807)) (brA (decide ((0 : Int) ≤ x2)) (brA (decide (x2 < ((x0.length : Nat) : Int))) (callX (fun n => spec_l2Text.f n ((rd_T60 x0 x2).f0) ((rd_T60 x0 x2).f1) ((rd_T60 x0 x2).f2) ((rd_T60 x0 x2).f3)) fun t0 => brA (decide (((x1 ++ (bs [44])).size + t0.size) ≤ 9223372036854775807)) (LP_28_0 k x0 ((x1 ++ (bs [44])) ++ t0) (wrap64 (x2 + (1 : Int)))) (none)) (none)) (none)) (none)) (brA (decide ((0 : Int) ≤ x2)) (brA (decide (x2 < ((x0.length : Nat) : Int))) (callX (fun n => spec_l2Text.f n ((rd_T60 x0 x2).f0) ((rd_T60 x0 x2).f1) ((rd_T60 x0 x2).f2) ((rd_T60 x0 x2).f3)) fun t1 => brA (decide ((x1.size + t1.size) ≤ 9223372036854775807)) (LP_28_0 k x0 (x1 ++ t1) (wrap64 (x2 + (1 : Int)))) (none)) (none)) (none))) (k (.str x1) ⟨[], []⟩) : Option Unit) := by
 simp only [← wrapA_i64]
 kernel_rfl
theorem w_28 (l0 : List S60) (k : AV tau → Mem tau → Option Unit) : fnA E_28 C_28 D_28 Tryd.f28 B_28 [.sl 60 l0] ⟨[], []⟩ k = (LP_28_0 k l0 (bs []) (0 : Int) : Option Unit) := by kernel_rfl
def S_28_0 (N : Nat) : Prop := ∀ (k : AV tau → Mem tau → Option Unit) (x0 : (List S60)) (x1 : ByteArray) (x2 : Int) (r : ByteArray), spec_ProgText.l0 N (x0) (x1) (x2) = some r → k (.str (r)) ⟨[], []⟩ = some () → LP_28_0 k x0 x1 x2 = some ()
theorem L_28 (N : Nat) : S_28_0 N := by
 induction N using Nat.strongRecOn with | _ N0 ih =>
 skip
 intro k x0 x1 x2 r h hk
 rcases N0 with _ | N
 · cases h
 first | rw [spec_ProgText.l0] at h | simp only [spec_ProgText.l0] at h | (unfold spec_ProgText.l0 at h; dsimp only at h)
 refine loop_fold mC_28 mD_28 ?_
 refine (w_28_0 k x0 x1 x2).trans ?_
 refine br_eti h rfl (fun c23 h => ?_) (fun c23 h => ?_)
 ·cases h; exact hk
 refine br_eti h rfl (fun c24 h => ?_) (fun c24 h => ?_)
 ·refine br_g h rfl (fun c25 h => ?_)
  refine br_g h rfl (fun c26 h => ?_)
  refine call_h N h (fun t1 e27 h => ?_)
  refine br_g h rfl (fun c28 h => ?_)
  exact (ih N (by omega)) _ _ _ _ _ h hk
 refine br_g h rfl (fun c29 h => ?_)
 refine br_g h rfl (fun c30 h => ?_)
 refine br_g h rfl (fun c31 h => ?_)
 refine call_h N h (fun t0 e32 h => ?_)
 refine br_g h rfl (fun c33 h => ?_)
 exact (ih N (by omega)) _ _ _ _ _ h hk
theorem okc_28 (args : List (AV tau)) (m : Mem tau) (κ : AV tau → Mem tau → Option Unit) (hh : c_28 args m κ = some ()) : ∃ av m1, κ av m1 = some () ∧ ToldA Tryd.prog TT (pnT 28) 28 args m av m1 := by
 obtain ⟨bx_, rw_⟩ := m
 unfold c_28 at hh
 simp only at hh
 split at hh
 case h_2 => cases hh
 rename_i b0
 obtain ⟨l0, hx0, hh0⟩ := bO_some hh
 have ex0 := asSl_some hx0
 subst ex0
 obtain ⟨N, t, h, hκ⟩ := callX_some hh0
 refine ⟨_, _, hκ, told_of_run pq okC_28 (fun _ _ _ => drawA_ok pq okC_28 hmix) (E := E_28) (fn := Tryd.f28) (body := B_28) (by kernel_rfl) (by kernel_rfl) (by kernel_rfl) (by rfl) (by exact Nat.le_of_ble_eq_true rfl) (fun k hk => ?_)⟩
 refine (w_28 l0 k).trans ?_
 replace h : spec_ProgText.f N l0 = some t := h
 unfold spec_ProgText.f at h
 exact (L_28 N) _ _ _ _ _ h hk
noncomputable def C_68 : Ctr tau Unit := ctrS 28 c_28 C_28
noncomputable def D_68 : Drw tau := drawA E_68 C_68
theorem okC_68 : CtrOk Tryd.prog TT pnT C_68 := ctrS_ok okC_28 okc_28
theorem mC_68 : CtrMono C_68 := ctrS_mono mC_28 mc_28
theorem mD_68 : DrMono D_68 := drawA_mono mC_68
noncomputable def B_68 : Code := Tryd.f68.body.getD .skip
theorem mc_68 (args : List (AV tau)) (m : Mem tau) (k k' : AV tau → Mem tau → Option Unit) (hk : ∀ av m, k av m = some () → k' av m = some ()) (h : c_68 args m k = some ()) : c_68 args m k' = some () := by
 unfold c_68 at h ⊢
 split at h
 · repeat' first | exact callX_mono (fun _ h => hk _ _ h) h | refine bO_mono (fun _ h => ?_) h
 · cases h
theorem w_68 (s0_0 : List Int) (s0_1 : Int) (l1 : List ByteArray) (k : AV tau → Mem tau → Option Unit) : fnA E_68 C_68 D_68 Tryd.f68 B_68 [.ptr 0 0, .own 0 0] ⟨[some (98, [.sl 5 s0_0, .int .i64 s0_1])], [some ⟨9, l1, 0⟩]⟩ k = (callX (fun n => spec_l15Rd_pick.f n s0_0 s0_1 ((l1.length : Nat) : Int)) fun t0 => brA (decide ((0 : Int) ≤ t0.1)) (brA (decide (t0.1 < ((l1.length : Nat) : Int))) (k (.str (rdOf (default : ByteArray) l1 t0.1)) ⟨[some (98, [.sl 5 s0_0, .int .i64 t0.2])], [some ⟨9, l1, 0⟩]⟩) (none)) (none) : Option Unit) := by kernel_rfl
theorem okc_68 (args : List (AV tau)) (m : Mem tau) (κ : AV tau → Mem tau → Option Unit) (hh : c_68 args m κ = some ()) : ∃ av m1, κ av m1 = some () ∧ ToldA Tryd.prog TT (pnT 68) 68 args m av m1 := by
 obtain ⟨bx_, rw_⟩ := m
 unfold c_68 at hh
 simp only at hh
 split at hh
 case h_2 => cases hh
 rename_i p0 b0 t0_ c0_0 c0_1 r0
 obtain ⟨u4, hx0, hh0⟩ := bO_some hh
 obtain ⟨u5, hx1, hh1⟩ := bO_some hh0
 obtain ⟨s0_0, hx2, hh2⟩ := bO_some hh1
 obtain ⟨s0_1, hx3, hh3⟩ := bO_some hh2
 obtain ⟨u6, hx4, hh4⟩ := bO_some hh3
 obtain ⟨l1, hx5, hh5⟩ := bO_some hh4
 have ex0 := asPtr_some hx0
 have ex1 := asT_some hx1
 have ex2 := asSl_some hx2
 have ex3 := asI_some hx3
 have ex4 := asOwn_some hx4
 have ex5 := asRow_some hx5
 subst ex0 ex1 ex2 ex3 ex4 ex5
 obtain ⟨N, t, h, hκ⟩ := callX_some hh5
 refine ⟨_, _, hκ, told_of_run pq okC_68 (fun _ _ _ => drawA_ok pq okC_68 hmix) (E := E_68) (fn := Tryd.f68) (body := B_68) (by kernel_rfl) (by kernel_rfl) (by kernel_rfl) (by rfl) (by exact Nat.le_of_ble_eq_true rfl) (fun k hk => ?_)⟩
 refine (w_68 s0_0 s0_1 l1 k).trans ?_
 replace h : spec_l15Rd_of.f N s0_0 s0_1 l1 = some t := h
 unfold spec_l15Rd_of.f at h
 refine call_h N h (fun t0 e7 h => ?_)
 refine br_g h rfl (fun c8 h => ?_)
 refine br_g h rfl (fun c9 h => ?_)
 cases h; exact hk
noncomputable def C_32 : Ctr tau Unit := ctrS 68 c_68 C_68
noncomputable def D_32 : Drw tau := drawA E_32 C_32
theorem okC_32 : CtrOk Tryd.prog TT pnT C_32 := ctrS_ok okC_68 okc_68
theorem mC_32 : CtrMono C_32 := ctrS_mono mC_68 mc_68
theorem mD_32 : DrMono D_32 := drawA_mono mC_32
noncomputable def B_32 : Code := Tryd.f32.body.getD .skip
theorem mc_32 (args : List (AV tau)) (m : Mem tau) (k k' : AV tau → Mem tau → Option Unit) (hk : ∀ av m, k av m = some () → k' av m = some ()) (h : c_32 args m k = some ()) : c_32 args m k' = some () := by
 unfold c_32 at h ⊢
 split at h
 · repeat' first | exact callX_mono (fun _ h => hk _ _ h) h | refine bO_mono (fun _ h => ?_) h
 · cases h
theorem w_32 (l0 : List Int) (k : AV tau → Mem tau → Option Unit) : fnA E_32 C_32 D_32 Tryd.f32 B_32 [.sl 5 l0] ⟨[], []⟩ k = (callX (fun n => spec_l15Open.f l0) fun t0 => callX (fun n => spec_l2Bent.f n t0.1 t0.2) fun t1 => callX (fun n => spec_ProgText.f n t1.1) fun t2 => brA (decide (((t2.size : Nat) : Int) = (0 : Int))) (k (.str t2) ⟨[], []⟩) (callX (fun n => spec_l15Rd_pick.f n t0.1 t1.2 (2 : Int)) fun t3 => brA (decide (t3.1 = (0 : Int))) (k (.str t2) ⟨[], []⟩) (callX (fun n => spec_l15Rd_pick.f n t0.1 t3.2 ((t2.size : Nat) : Int)) fun t4 => brA (decide ((0 : Int) ≤ t4.1)) (brA (decide (t4.1 ≤ ((t2.size : Nat) : Int))) (callX (fun n => spec_l15Rd_of.f n t0.1 t4.2 ([(bs []), (bs [48]), (bs [44]), (bs [32]), (bs [45]), (bs [102, 97, 105, 108]), (bs [49])] : List ByteArray)) fun t5 => brA (decide (((ByteArray.extract t2 0 (Int.toNat t4.1)).size + t5.1.size) ≤ 9223372036854775807)) (callX (fun n => spec_l15Rd_pick.f n t0.1 t5.2 (2 : Int)) fun t6 => brA (decide ((0 : Int) ≤ (wrap64 (t4.1 + t6.1)))) (brA (decide ((wrap64 (t4.1 + t6.1)) ≤ ((t2.size : Nat) : Int))) (brA (decide ((((ByteArray.extract t2 0 (Int.toNat t4.1)) ++ t5.1).size + (ByteArray.extract t2 (Int.toNat (wrap64 (t4.1 + t6.1))) t2.size).size) ≤ 9223372036854775807)) (k (.str (((ByteArray.extract t2 0 (Int.toNat t4.1)) ++ t5.1) ++ (ByteArray.extract t2 (Int.toNat (wrap64 (t4.1 + t6.1))) t2.size))) ⟨[], []⟩) (none)) (none)) (none)) (none)) (none)) (none))) : Option Unit) := by
 simp only [← wrapA_i64]
 kernel_rfl
theorem okc_32 (args : List (AV tau)) (m : Mem tau) (κ : AV tau → Mem tau → Option Unit) (hh : c_32 args m κ = some ()) : ∃ av m1, κ av m1 = some () ∧ ToldA Tryd.prog TT (pnT 32) 32 args m av m1 := by
 obtain ⟨bx_, rw_⟩ := m
 unfold c_32 at hh
 simp only at hh
 split at hh
 case h_2 => cases hh
 rename_i b0
 obtain ⟨l0, hx0, hh0⟩ := bO_some hh
 have ex0 := asSl_some hx0
 subst ex0
 obtain ⟨N, t, h, hκ⟩ := callX_some hh0
 refine ⟨_, _, hκ, told_of_run pq okC_32 (fun _ _ _ => drawA_ok pq okC_32 hmix) (E := E_32) (fn := Tryd.f32) (body := B_32) (by kernel_rfl) (by kernel_rfl) (by kernel_rfl) (by rfl) (by exact Nat.le_of_ble_eq_true rfl) (fun k hk => ?_)⟩
 refine (w_32 l0 k).trans ?_
 replace h : spec_DrawProgRead.f N l0 = some t := h
 unfold spec_DrawProgRead.f at h
 refine call_h 0 h (fun t0 e16 h => ?_)
 refine call_h N h (fun t1 e17 h => ?_)
 refine call_h N h (fun t2 e18 h => ?_)
 refine br_ite h rfl (fun c19 h => ?_) (fun c19 h => ?_)
 ·cases h; exact hk
 refine call_h N h (fun t3 e20 h => ?_)
 refine br_ite h rfl (fun c21 h => ?_) (fun c21 h => ?_)
 ·cases h; exact hk
 refine call_h N h (fun t4 e22 h => ?_)
 refine br_g h rfl (fun c23 h => ?_)
 refine br_g h rfl (fun c24 h => ?_)
 refine call_h N h (fun t5 e25 h => ?_)
 refine br_g h rfl (fun c26 h => ?_)
 refine call_h N h (fun t6 e27 h => ?_)
 refine br_g h rfl (fun c28 h => ?_)
 refine br_g h rfl (fun c29 h => ?_)
 refine br_g h rfl (fun c30 h => ?_)
 cases h; exact hk
noncomputable def C_50 : Ctr tau Unit := ctrS 32 c_32 C_32
noncomputable def D_50 : Drw tau := drawA E_50 C_50
theorem okC_50 : CtrOk Tryd.prog TT pnT C_50 := ctrS_ok okC_32 okc_32
theorem mC_50 : CtrMono C_50 := ctrS_mono mC_32 mc_32
theorem mD_50 : DrMono D_50 := drawA_mono mC_50
noncomputable def B_50 : Code := Tryd.f50.body.getD .skip
theorem mc_50 (args : List (AV tau)) (m : Mem tau) (k k' : AV tau → Mem tau → Option Unit) (hk : ∀ av m, k av m = some () → k' av m = some ()) (h : c_50 args m k = some ()) : c_50 args m k' = some () := by
 unfold c_50 at h ⊢
 split at h
 · repeat' first | exact callX_mono (fun _ h => hk _ _ h) h | refine bO_mono (fun _ h => ?_) h
 · cases h
noncomputable def K_50_0 (k : AV tau → Mem tau → Option Unit) : Kon tau := (kBlock 0 (kS E_50 C_50 D_50 (codeP B_50 [1, 1, 1, 1]) (kEnd E_50 Tryd.f50 k)))
def st_50_0 (x0 : ByteArray) (x1 : Int) (x2 : Int) (x3 : Int) (x4 : (List ByteArray)) : St tau := ⟨tmL 36 0 [(0, .str x0), (1, .int .u8 x1), (5, .own 0 0), (6, .int .i64 x2), (7, .int .i64 x3)], ⟨[], [some ⟨9, x4, 0⟩]⟩⟩
noncomputable def LP_50_0 (k : AV tau → Mem tau → Option Unit) (x0 : ByteArray) (x1 : Int) (x2 : Int) (x3 : Int) (x4 : (List ByteArray)) : Option Unit := loopA E_50 (codeA E_50 C_50 D_50 (codeP B_50 [1, 1, 1, 0, 1, 0, 0])) (codeP B_50 [1, 1, 1, 0, 1, 0, 0]) (K_50_0 k) (st_50_0 x0 x1 x2 x3 x4)
theorem w_50_0 (k : AV tau → Mem tau → Option Unit) (x0 : ByteArray) (x1 : Int) (x2 : Int) (x3 : Int) (x4 : (List ByteArray)) : codeA E_50 C_50 D_50 (codeP B_50 [1, 1, 1, 0, 1, 0, 0]) (kL E_50 C_50 D_50 (codeP B_50 [1, 1, 1, 0, 1, 0, 0]) (K_50_0 k)) (st_50_0 x0 x1 x2 x3 x4) = (brA (decide (x3 ≤ ((x0.size : Nat) : Int))) (brA (decide (x3 = ((x0.size : Nat) : Int))) (brA (decide ((0 : Int) ≤ x3)) (brA (decide (x3 ≤ ((x0.size : Nat) : Int))) (brA (decide ((0 : Int) ≤ x2)) (brA (decide (x2 ≤ x3)) (brA (decide ((x4.length + 1) ≤ 8796093022208)) (LP_50_0 k x0 x1 (wrap64 (x3 + (1 : Int))) (wrap64 (x3 + (1 : Int))) (x4 ++ ([(ByteArray.extract x0 (Int.toNat x2) (Int.toNat x3))] : List ByteArray))) (none)) (none)) (none)) (none)) (none)) (brA (decide ((0 : Int) ≤ x3)) (brA (decide (x3 < ((x0.size : Nat) : Int))) (brA (decide ((btA x0 x3) = x1)) (brA (decide ((0 : Int) ≤ x3)) (brA (decide (x3 ≤ ((x0.size : Nat) : Int))) (brA (decide ((0 : Int) ≤ x2)) (brA (decide (x2 ≤ x3)) (brA (decide ((x4.length + 1) ≤ 8796093022208)) (LP_50_0 k x0 x1 (wrap64 (x3 + (1 : Int))) (wrap64 (x3 + (1 : Int))) (x4 ++ ([(ByteArray.extract x0 (Int.toNat x2) (Int.toNat x3))] : List ByteArray))) (none)) (none)) (none)) (none)) (none)) (LP_50_0 k x0 x1 x2 (wrap64 (x3 + (1 : Int))) x4)) (none)) (none))) (k (.own 0 0) ⟨[], [some ⟨9, x4, 0⟩]⟩) : Option Unit) := by
 simp only [← wrapA_i64]
 kernel_rfl
theorem w_50 (a0 : ByteArray) (a1 : Int) (k : AV tau → Mem tau → Option Unit) : fnA E_50 C_50 D_50 Tryd.f50 B_50 [.str a0, .int .u8 a1] ⟨[], []⟩ k = (LP_50_0 k a0 a1 (0 : Int) (0 : Int) ([] : List ByteArray) : Option Unit) := by kernel_rfl
def S_50_0 (N : Nat) : Prop := ∀ (k : AV tau → Mem tau → Option Unit) (x0 : ByteArray) (x1 : Int) (x2 : Int) (x3 : Int) (x4 : (List ByteArray)) (r : (List ByteArray)), spec_l15Cut.l0 N (x0) (x1) (x2) (x3) (x4) = some r → k (.own 0 0) ⟨[], [some ⟨9, r, 0⟩]⟩ = some () → LP_50_0 k x0 x1 x2 x3 x4 = some ()
theorem L_50 (N : Nat) : S_50_0 N := by
 induction N using Nat.strongRecOn with | _ N0 ih =>
 skip
 intro k x0 x1 x2 x3 x4 r h hk
 rcases N0 with _ | N
 · cases h
 first | rw [spec_l15Cut.l0] at h | simp only [spec_l15Cut.l0] at h | (unfold spec_l15Cut.l0 at h; dsimp only at h)
 refine loop_fold mC_50 mD_50 ?_
 refine (w_50_0 k x0 x1 x2 x3 x4).trans ?_
 refine br_eti h rfl (fun c31 h => ?_) (fun c31 h => ?_)
 ·cases h; exact hk
 refine br_ite h rfl (fun c32 h => ?_) (fun c32 h => ?_)
 ·refine br_g h rfl (fun c33 h => ?_)
  refine br_g h rfl (fun c34 h => ?_)
  refine br_g h rfl (fun c35 h => ?_)
  refine br_g h rfl (fun c36 h => ?_)
  refine br_g h rfl (fun c37 h => ?_)
  exact (ih N (by omega)) _ _ _ _ _ _ _ h hk
 refine br_g h rfl (fun c38 h => ?_)
 refine br_g h rfl (fun c39 h => ?_)
 refine br_eti h rfl (fun c40 h => ?_) (fun c40 h => ?_)
 ·exact (ih N (by omega)) _ _ _ _ _ _ _ h hk
 refine br_g h rfl (fun c41 h => ?_)
 refine br_g h rfl (fun c42 h => ?_)
 refine br_g h rfl (fun c43 h => ?_)
 refine br_g h rfl (fun c44 h => ?_)
 refine br_g h rfl (fun c45 h => ?_)
 exact (ih N (by omega)) _ _ _ _ _ _ _ h hk
theorem okc_50 (args : List (AV tau)) (m : Mem tau) (κ : AV tau → Mem tau → Option Unit) (hh : c_50 args m κ = some ()) : ∃ av m1, κ av m1 = some () ∧ ToldA Tryd.prog TT (pnT 50) 50 args m av m1 := by
 obtain ⟨bx_, rw_⟩ := m
 unfold c_50 at hh
 simp only at hh
 split at hh
 case h_2 => cases hh
 rename_i b0 b1
 obtain ⟨a0, hx0, hh0⟩ := bO_some hh
 obtain ⟨a1, hx1, hh1⟩ := bO_some hh0
 have ex0 := asS_some hx0
 have ex1 := asI_some hx1
 subst ex0 ex1
 obtain ⟨N, t, h, hκ⟩ := callX_some hh1
 refine ⟨_, _, hκ, told_of_run pq okC_50 (fun _ _ _ => drawA_ok pq okC_50 hmix) (E := E_50) (fn := Tryd.f50) (body := B_50) (by kernel_rfl) (by kernel_rfl) (by kernel_rfl) (by rfl) (by exact Nat.le_of_ble_eq_true rfl) (fun k hk => ?_)⟩
 refine (w_50 a0 a1 k).trans ?_
 replace h : spec_l15Cut.f N a0 a1 = some t := h
 unfold spec_l15Cut.f at h
 exact (L_50 N) _ _ _ _ _ _ _ h hk
noncomputable def C_70 : Ctr tau Unit := ctrS 50 c_50 C_50
noncomputable def D_70 : Drw tau := drawA E_70 C_70
theorem okC_70 : CtrOk Tryd.prog TT pnT C_70 := ctrS_ok okC_50 okc_50
theorem mC_70 : CtrMono C_70 := ctrS_mono mC_50 mc_50
theorem mD_70 : DrMono D_70 := drawA_mono mC_70
noncomputable def B_70 : Code := Tryd.f70.body.getD .skip
theorem mc_70 (args : List (AV tau)) (m : Mem tau) (k k' : AV tau → Mem tau → Option Unit) (hk : ∀ av m, k av m = some () → k' av m = some ()) (h : c_70 args m k = some ()) : c_70 args m k' = some () := by
 unfold c_70 at h ⊢
 split at h
 · repeat' first | exact callX_mono (fun _ h => hk _ _ h) h | refine bO_mono (fun _ h => ?_) h
 · cases h
noncomputable def K_70_0 (k : AV tau → Mem tau → Option Unit) : Kon tau := (kBlock 0 (kS E_70 C_70 D_70 (codeP B_70 [1, 1, 1, 1, 1, 1]) (kEnd E_70 Tryd.f70 k)))
def st_70_0 (x0 : ByteArray) (x1 : Bool) (x2 : Int) (x3 : Int) : St tau := ⟨tmL 67 0 [(0, .str x0), (4, .bool x1), (5, .int .i64 x2), (6, .int .i64 x3)], ⟨[], []⟩⟩
noncomputable def LP_70_0 (k : AV tau → Mem tau → Option Unit) (x0 : ByteArray) (x1 : Bool) (x2 : Int) (x3 : Int) : Option Unit := loopA E_70 (codeA E_70 C_70 D_70 (codeP B_70 [1, 1, 1, 1, 1, 0, 1, 0, 0])) (codeP B_70 [1, 1, 1, 1, 1, 0, 1, 0, 0]) (K_70_0 k) (st_70_0 x0 x1 x2 x3)
theorem w_70_0 (k : AV tau → Mem tau → Option Unit) (x0 : ByteArray) (x1 : Bool) (x2 : Int) (x3 : Int) : codeA E_70 C_70 D_70 (codeP B_70 [1, 1, 1, 1, 1, 0, 1, 0, 0]) (kL E_70 C_70 D_70 (codeP B_70 [1, 1, 1, 1, 1, 0, 1, 0, 0]) (K_70_0 k)) (st_70_0 x0 x1 x2 x3) = (brA (decide (x3 < ((x0.size : Nat) : Int))) (brA (decide ((0 : Int) ≤ x3)) (brA (decide (x3 < ((x0.size : Nat) : Int))) (brA (decide ((btA x0 x3) < (48 : Int))) (k (.tup [.int .i64 (0 : Int), .bool false]) ⟨[], []⟩) (brA (decide ((0 : Int) ≤ x3)) (brA (decide (x3 < ((x0.size : Nat) : Int))) (brA (decide ((btA x0 x3) > (57 : Int))) (k (.tup [.int .i64 (0 : Int), .bool false]) ⟨[], []⟩) (brA (decide ((0 : Int) ≤ x3)) (brA (decide (x3 < ((x0.size : Nat) : Int))) (LP_70_0 k x0 x1 (wrap64 ((wrap64 (x2 * (10 : Int))) + (wrap64 (IntKind.wrap .u8 ((btA x0 x3) - (48 : Int)))))) (wrap64 (x3 + (1 : Int)))) (none)) (none))) (none)) (none))) (none)) (none)) (brA x1 (k (.tup [.int .i64 (wrap64 ((0 : Int) - x2)), .bool true]) ⟨[], []⟩) (k (.tup [.int .i64 x2, .bool true]) ⟨[], []⟩)) : Option Unit) := by
 simp only [← wrapA_i64]
 kernel_rfl
theorem w_70 (a0 : ByteArray) (k : AV tau → Mem tau → Option Unit) : fnA E_70 C_70 D_70 Tryd.f70 B_70 [.str a0] ⟨[], []⟩ k = (brA (decide (((a0.size : Nat) : Int) > (0 : Int))) (brA (decide ((0 : Int) < ((a0.size : Nat) : Int))) (brA (decide ((btA a0 (0 : Int)) = (45 : Int))) (brA (decide ((1 : Int) ≤ ((a0.size : Nat) : Int))) (brA (decide ((((ByteArray.extract a0 1 a0.size).size : Nat) : Int) = (0 : Int))) (k (.tup [.int .i64 (0 : Int), .bool false]) ⟨[], []⟩) (brA (decide ((((ByteArray.extract a0 1 a0.size).size : Nat) : Int) > (17 : Int))) (k (.tup [.int .i64 (0 : Int), .bool false]) ⟨[], []⟩) (brA (decide ((0 : Int) < (((ByteArray.extract a0 1 a0.size).size : Nat) : Int))) (brA (decide ((btA (ByteArray.extract a0 1 a0.size) (0 : Int)) = (48 : Int))) (brA (decide ((((ByteArray.extract a0 1 a0.size).size : Nat) : Int) > (1 : Int))) (k (.tup [.int .i64 (0 : Int), .bool false]) ⟨[], []⟩) (brA (decide ((btA a0 (0 : Int)) = (45 : Int))) (k (.tup [.int .i64 (0 : Int), .bool false]) ⟨[], []⟩) (LP_70_0 k (ByteArray.extract a0 1 a0.size) (decide ((btA a0 (0 : Int)) = (45 : Int))) (0 : Int) (0 : Int)))) (LP_70_0 k (ByteArray.extract a0 1 a0.size) (decide ((btA a0 (0 : Int)) = (45 : Int))) (0 : Int) (0 : Int))) (none)))) (none)) (brA (decide (((a0.size : Nat) : Int) = (0 : Int))) (k (.tup [.int .i64 (0 : Int), .bool false]) ⟨[], []⟩) (brA (decide (((a0.size : Nat) : Int) > (17 : Int))) (k (.tup [.int .i64 (0 : Int), .bool false]) ⟨[], []⟩) (brA (decide ((0 : Int) < ((a0.size : Nat) : Int))) (brA (decide ((btA a0 (0 : Int)) = (48 : Int))) (brA (decide (((a0.size : Nat) : Int) > (1 : Int))) (k (.tup [.int .i64 (0 : Int), .bool false]) ⟨[], []⟩) (brA (decide ((btA a0 (0 : Int)) = (45 : Int))) (k (.tup [.int .i64 (0 : Int), .bool false]) ⟨[], []⟩) (LP_70_0 k a0 (decide ((btA a0 (0 : Int)) = (45 : Int))) (0 : Int) (0 : Int)))) (LP_70_0 k a0 (decide ((btA a0 (0 : Int)) = (45 : Int))) (0 : Int) (0 : Int))) (none))))) (none)) (brA (decide (((a0.size : Nat) : Int) = (0 : Int))) (k (.tup [.int .i64 (0 : Int), .bool false]) ⟨[], []⟩) (brA (decide (((a0.size : Nat) : Int) > (17 : Int))) (k (.tup [.int .i64 (0 : Int), .bool false]) ⟨[], []⟩) (brA (decide ((0 : Int) < ((a0.size : Nat) : Int))) (brA (decide ((btA a0 (0 : Int)) = (48 : Int))) (brA (decide (((a0.size : Nat) : Int) > (1 : Int))) (k (.tup [.int .i64 (0 : Int), .bool false]) ⟨[], []⟩) (LP_70_0 k a0 false (0 : Int) (0 : Int))) (LP_70_0 k a0 false (0 : Int) (0 : Int))) (none)))) : Option Unit) := by kernel_rfl
def S_70_0 (N : Nat) : Prop := ∀ (k : AV tau → Mem tau → Option Unit) (x0 : ByteArray) (x1 : Bool) (x2 : Int) (x3 : Int) (r : Int × Bool), spec_l15Num.l0 N (x0) (x1) (x2) (x3) = some r → k (.tup [.int .i64 (r.1), .bool (r.2)]) ⟨[], []⟩ = some () → LP_70_0 k x0 x1 x2 x3 = some ()
theorem L_70 (N : Nat) : S_70_0 N := by
 induction N using Nat.strongRecOn with | _ N0 ih =>
 skip
 intro k x0 x1 x2 x3 r h hk
 rcases N0 with _ | N
 · cases h
 first | rw [spec_l15Num.l0] at h | simp only [spec_l15Num.l0] at h | (unfold spec_l15Num.l0 at h; dsimp only at h)
 refine loop_fold mC_70 mD_70 ?_
 refine (w_70_0 k x0 x1 x2 x3).trans ?_
 refine br_eti h rfl (fun c63 h => ?_) (fun c63 h => ?_)
 ·refine br_eti h dect (fun c64 h => ?_) (fun c64 h => ?_)
  ·cases h; exact hk
  cases h; exact hk
 refine br_g h rfl (fun c65 h => ?_)
 refine br_g h rfl (fun c66 h => ?_)
 refine br_ite h rfl (fun c67 h => ?_) (fun c67 h => ?_)
 ·cases h; exact hk
 refine br_g h rfl (fun c68 h => ?_)
 refine br_g h rfl (fun c69 h => ?_)
 refine br_ite h rfl (fun c70 h => ?_) (fun c70 h => ?_)
 ·cases h; exact hk
 refine br_g h rfl (fun c71 h => ?_)
 refine br_g h rfl (fun c72 h => ?_)
 exact (ih N (by omega)) _ _ _ _ _ _ h hk
theorem okc_70 (args : List (AV tau)) (m : Mem tau) (κ : AV tau → Mem tau → Option Unit) (hh : c_70 args m κ = some ()) : ∃ av m1, κ av m1 = some () ∧ ToldA Tryd.prog TT (pnT 70) 70 args m av m1 := by
 obtain ⟨bx_, rw_⟩ := m
 unfold c_70 at hh
 simp only at hh
 split at hh
 case h_2 => cases hh
 rename_i b0
 obtain ⟨a0, hx0, hh0⟩ := bO_some hh
 have ex0 := asS_some hx0
 subst ex0
 obtain ⟨N, t, h, hκ⟩ := callX_some hh0
 refine ⟨_, _, hκ, told_of_run pq okC_70 (fun _ _ _ => drawA_ok pq okC_70 hmix) (E := E_70) (fn := Tryd.f70) (body := B_70) (by kernel_rfl) (by kernel_rfl) (by kernel_rfl) (by rfl) (by exact Nat.le_of_ble_eq_true rfl) (fun k hk => ?_)⟩
 refine (w_70 a0 k).trans ?_
 replace h : spec_l15Num.f N a0 = some t := h
 unfold spec_l15Num.f at h
 refine br_eti h rfl (fun c73 h => ?_) (fun c73 h => ?_)
 ·refine br_ite h rfl (fun c74 h => ?_) (fun c74 h => ?_)
  ·cases h; exact hk
  refine br_ite h rfl (fun c75 h => ?_) (fun c75 h => ?_)
  ·cases h; exact hk
  refine br_g h rfl (fun c76 h => ?_)
  refine br_eti h rfl (fun c77 h => ?_) (fun c77 h => ?_)
  ·exact (L_70 N) _ _ _ _ _ _ h hk
  refine br_eti h rfl (fun c78 h => ?_) (fun c78 h => ?_)
  ·exact (L_70 N) _ _ _ _ _ _ h hk
  cases h; exact hk
 refine br_g h rfl (fun c79 h => ?_)
 refine br_eti h rfl (fun c80 h => ?_) (fun c80 h => ?_)
 ·refine br_ite h rfl (fun c81 h => ?_) (fun c81 h => ?_)
  ·cases h; exact hk
  refine br_ite h rfl (fun c82 h => ?_) (fun c82 h => ?_)
  ·cases h; exact hk
  refine br_g h rfl (fun c83 h => ?_)
  refine br_eti h rfl (fun c84 h => ?_) (fun c84 h => ?_)
  ·exact (L_70 N) _ _ _ _ _ _ h hk
  refine br_ite h rfl (fun c85 h => ?_) (fun c85 h => ?_)
  ·cases h; exact hk
  refine br_ite h rfl (fun c86 h => ?_) (fun c86 h => ?_)
  ·cases h; exact hk
  exact (L_70 N) _ _ _ _ _ _ h hk
 refine br_g h rfl (fun c87 h => ?_)
 refine br_ite h rfl (fun c88 h => ?_) (fun c88 h => ?_)
 ·cases h; exact hk
 refine br_ite h rfl (fun c89 h => ?_) (fun c89 h => ?_)
 ·cases h; exact hk
 refine br_g h rfl (fun c90 h => ?_)
 refine br_eti h rfl (fun c91 h => ?_) (fun c91 h => ?_)
 ·exact (L_70 N) _ _ _ _ _ _ h hk
 refine br_ite h rfl (fun c92 h => ?_) (fun c92 h => ?_)
 ·cases h; exact hk
 refine br_ite h rfl (fun c93 h => ?_) (fun c93 h => ?_)
 ·cases h; exact hk
 exact (L_70 N) _ _ _ _ _ _ h hk
noncomputable def C_51 : Ctr tau Unit := ctrS 70 c_70 C_70
noncomputable def D_51 : Drw tau := drawA E_51 C_51
theorem okC_51 : CtrOk Tryd.prog TT pnT C_51 := ctrS_ok okC_70 okc_70
theorem mC_51 : CtrMono C_51 := ctrS_mono mC_70 mc_70
theorem mD_51 : DrMono D_51 := drawA_mono mC_51
noncomputable def B_51 : Code := Tryd.f51.body.getD .skip
theorem mc_51 (args : List (AV tau)) (m : Mem tau) (k k' : AV tau → Mem tau → Option Unit) (hk : ∀ av m, k av m = some () → k' av m = some ()) (h : c_51 args m k = some ()) : c_51 args m k' = some () := by
 unfold c_51 at h ⊢
 split at h
 · repeat' first | exact callX_mono (fun _ h => hk _ _ h) h | refine bO_mono (fun _ h => ?_) h
 · cases h
noncomputable def K_51_0 (k : AV tau → Mem tau → Option Unit) : Kon tau := (kBlock 0 (kS E_51 C_51 D_51 (codeP B_51 [1, 1, 1, 1]) (kEnd E_51 Tryd.f51 k)))
noncomputable def K_51_1 (k : AV tau → Mem tau → Option Unit) : Kon tau := (kBlock 2 (kS E_51 C_51 D_51 (codeP B_51 [1, 1, 1, 1, 1, 1]) (kEnd E_51 Tryd.f51 k)))
def st_51_0 (x0 : Int) (x1 : Int) (x2 : Int) (x3 : Int) (x4 : Int) (x5 : Int) (x6 : Int) (x7 : Int) (x8 : Int) (x9 : (List ByteArray)) : St tau := ⟨tmL 88 0 [(2, .ptr 0 0), (4, .own 0 0), (5, .ptr 1 0), (6, .int .i64 x0)], ⟨[some (60, [.int .i64 x1, .int .i64 x2, .int .i64 x3, .int .i64 x4]), some (60, [.int .i64 x5, .int .i64 x6, .int .i64 x7, .int .i64 x8])], [some ⟨9, x9, 0⟩]⟩⟩
noncomputable def LP_51_0 (k : AV tau → Mem tau → Option Unit) (x0 : Int) (x1 : Int) (x2 : Int) (x3 : Int) (x4 : Int) (x5 : Int) (x6 : Int) (x7 : Int) (x8 : Int) (x9 : (List ByteArray)) : Option Unit := loopA E_51 (codeA E_51 C_51 D_51 (codeP B_51 [1, 1, 1, 0, 1, 0, 0])) (codeP B_51 [1, 1, 1, 0, 1, 0, 0]) (K_51_0 k) (st_51_0 x0 x1 x2 x3 x4 x5 x6 x7 x8 x9)
def st_51_1 (x0 : Int) (x1 : Int) (x2 : Int) (x3 : Int) (x4 : Int) (x5 : Int) (x6 : Int) (x7 : Int) (x8 : Int) (x9 : (List ByteArray)) (x10 : (List Int)) : St tau := ⟨tmL 88 0 [(2, .ptr 0 0), (4, .own 0 0), (5, .ptr 1 0), (7, .own 1 0), (8, .int .i64 x0)], ⟨[some (60, [.int .i64 x1, .int .i64 x2, .int .i64 x3, .int .i64 x4]), some (60, [.int .i64 x5, .int .i64 x6, .int .i64 x7, .int .i64 x8])], [some ⟨9, x9, 0⟩, some ⟨3, x10, 0⟩]⟩⟩
noncomputable def LP_51_1 (k : AV tau → Mem tau → Option Unit) (x0 : Int) (x1 : Int) (x2 : Int) (x3 : Int) (x4 : Int) (x5 : Int) (x6 : Int) (x7 : Int) (x8 : Int) (x9 : (List ByteArray)) (x10 : (List Int)) : Option Unit := loopA E_51 (codeA E_51 C_51 D_51 (codeP B_51 [1, 1, 1, 1, 1, 0, 1, 0, 0])) (codeP B_51 [1, 1, 1, 1, 1, 0, 1, 0, 0]) (K_51_1 k) (st_51_1 x0 x1 x2 x3 x4 x5 x6 x7 x8 x9 x10)
theorem w_51_0 (k : AV tau → Mem tau → Option Unit) (x0 : Int) (x1 : Int) (x2 : Int) (x3 : Int) (x4 : Int) (x5 : Int) (x6 : Int) (x7 : Int) (x8 : Int) (x9 : (List ByteArray)) : codeA E_51 C_51 D_51 (codeP B_51 [1, 1, 1, 0, 1, 0, 0]) (kL E_51 C_51 D_51 (codeP B_51 [1, 1, 1, 0, 1, 0, 0]) (K_51_0 k)) (st_51_0 x0 x1 x2 x3 x4 x5 x6 x7 x8 x9) = (brA (decide (x0 ≤ (7 : Int))) (brA (decide ((0 : Int) < ((x9.length : Nat) : Int))) (callX (fun n => spec_l2Words.f n) fun t1 => brA (decide ((0 : Int) ≤ x0)) (brA (decide (x0 < ((t1.length : Nat) : Int))) (brA (decide ((rdOf (default : ByteArray) t1 x0) = (rdOf (default : ByteArray) x9 (0 : Int)))) (LP_51_0 k (wrap64 (x0 + (1 : Int))) x1 x2 x3 x4 x0 x6 x7 x8 x9) (LP_51_0 k (wrap64 (x0 + (1 : Int))) x1 x2 x3 x4 x5 x6 x7 x8 x9)) (none)) (none)) (none)) (LP_51_1 k (1 : Int) x1 x2 x3 x4 x5 x6 x7 x8 x9 ([] : List Int)) : Option Unit) := by
 simp only [← wrapA_i64]
 kernel_rfl
theorem w_51_1 (k : AV tau → Mem tau → Option Unit) (x0 : Int) (x1 : Int) (x2 : Int) (x3 : Int) (x4 : Int) (x5 : Int) (x6 : Int) (x7 : Int) (x8 : Int) (x9 : (List ByteArray)) (x10 : (List Int)) : codeA E_51 C_51 D_51 (codeP B_51 [1, 1, 1, 1, 1, 0, 1, 0, 0]) (kL E_51 C_51 D_51 (codeP B_51 [1, 1, 1, 1, 1, 0, 1, 0, 0]) (K_51_1 k)) (st_51_1 x0 x1 x2 x3 x4 x5 x6 x7 x8 x9 x10) = (brA (decide (x0 < ((x9.length : Nat) : Int))) (brA (decide ((0 : Int) ≤ x0)) (brA (decide (x0 < ((x9.length : Nat) : Int))) (callX (fun n => spec_l15Num.f n (rdOf (default : ByteArray) x9 x0)) fun t2 => brA (!t2.2) (k (.tup [.agg [.int .i64 x5, .int .i64 x6, .int .i64 x7, .int .i64 x8], .bool false]) ⟨[], []⟩) (brA (decide ((x10.length + 1) ≤ 17592186044416)) (LP_51_1 k (wrap64 (x0 + (1 : Int))) x1 x2 x3 x4 x5 x6 x7 x8 x9 (x10 ++ ([t2.1] : List Int))) (none))) (none)) (none)) (brA (decide ((0 : Int) ≤ x5)) (brA (decide (x5 < (8 : Int))) (brA (!(decide (((x10.length : Nat) : Int) = (rd ([(-(1 : Int)), (2 : Int), (2 : Int), (2 : Int), (2 : Int), (2 : Int), (3 : Int), (0 : Int)] : List Int) x5)))) (k (.tup [.agg [.int .i64 x5, .int .i64 x6, .int .i64 x7, .int .i64 x8], .bool false]) ⟨[], []⟩) (brA (decide (((x10.length : Nat) : Int) > (0 : Int))) (brA (decide ((0 : Int) < ((x10.length : Nat) : Int))) (brA (decide ((1 : Int) < ((x10.length : Nat) : Int))) (brA (decide (x5 = (3 : Int))) (brA (decide ((1 : Int) < ((x10.length : Nat) : Int))) (brA (decide (x5 = (6 : Int))) (brA (decide ((2 : Int) < ((x10.length : Nat) : Int))) (k (.tup [.agg [.int .i64 x5, .int .i64 (rd x10 (0 : Int)), .int .i64 (0 : Int), .int .i64 (rd x10 (2 : Int))], .bool true]) ⟨[], []⟩) (none)) (k (.tup [.agg [.int .i64 x5, .int .i64 (rd x10 (0 : Int)), .int .i64 (0 : Int), .int .i64 (rd x10 (1 : Int))], .bool true]) ⟨[], []⟩)) (none)) (brA (decide (x5 = (6 : Int))) (brA (decide ((2 : Int) < ((x10.length : Nat) : Int))) (k (.tup [.agg [.int .i64 x5, .int .i64 (rd x10 (0 : Int)), .int .i64 (rd x10 (1 : Int)), .int .i64 (rd x10 (2 : Int))], .bool true]) ⟨[], []⟩) (none)) (k (.tup [.agg [.int .i64 x5, .int .i64 (rd x10 (0 : Int)), .int .i64 (rd x10 (1 : Int)), .int .i64 x8], .bool true]) ⟨[], []⟩))) (none)) (none)) (brA (decide (x5 = (3 : Int))) (brA (decide ((1 : Int) < ((x10.length : Nat) : Int))) (brA (decide (x5 = (6 : Int))) (brA (decide ((2 : Int) < ((x10.length : Nat) : Int))) (k (.tup [.agg [.int .i64 x5, .int .i64 x6, .int .i64 (0 : Int), .int .i64 (rd x10 (2 : Int))], .bool true]) ⟨[], []⟩) (none)) (k (.tup [.agg [.int .i64 x5, .int .i64 x6, .int .i64 (0 : Int), .int .i64 (rd x10 (1 : Int))], .bool true]) ⟨[], []⟩)) (none)) (brA (decide (x5 = (6 : Int))) (brA (decide ((2 : Int) < ((x10.length : Nat) : Int))) (k (.tup [.agg [.int .i64 x5, .int .i64 x6, .int .i64 x7, .int .i64 (rd x10 (2 : Int))], .bool true]) ⟨[], []⟩) (none)) (k (.tup [.agg [.int .i64 x5, .int .i64 x6, .int .i64 x7, .int .i64 x8], .bool true]) ⟨[], []⟩))))) (none)) (none)) : Option Unit) := by
 simp only [← wrapA_i64]
 kernel_rfl
theorem w_51 (a0 : ByteArray) (k : AV tau → Mem tau → Option Unit) : fnA E_51 C_51 D_51 Tryd.f51 B_51 [.str a0] ⟨[], []⟩ k = (callX (fun n => spec_l15Cut.f n a0 (32 : Int)) fun t0 => LP_51_0 k (1 : Int) (0 : Int) (0 : Int) (0 : Int) (0 : Int) (0 : Int) (0 : Int) (0 : Int) (0 : Int) t0 : Option Unit) := by kernel_rfl
def S_51_0 (N : Nat) : Prop := ∀ (k : AV tau → Mem tau → Option Unit) (x0 : Int) (x1 : Int) (x2 : Int) (x3 : Int) (x4 : Int) (x5 : Int) (x6 : Int) (x7 : Int) (x8 : Int) (x9 : (List ByteArray)) (r : Int × Int × Int × Int × Bool), spec_l2One.l0 N (x0) (x1) (x2) (x3) (x4) (x5) (x6) (x7) (x8) (x9) = some r → k (.tup [.agg [.int .i64 (r.1), .int .i64 (r.2.1), .int .i64 (r.2.2.1), .int .i64 (r.2.2.2.1)], .bool (r.2.2.2.2)]) ⟨[], []⟩ = some () → LP_51_0 k x0 x1 x2 x3 x4 x5 x6 x7 x8 x9 = some ()
def S_51_1 (N : Nat) : Prop := ∀ (k : AV tau → Mem tau → Option Unit) (x0 : Int) (x1 : Int) (x2 : Int) (x3 : Int) (x4 : Int) (x5 : Int) (x6 : Int) (x7 : Int) (x8 : Int) (x9 : (List ByteArray)) (x10 : (List Int)) (r : Int × Int × Int × Int × Bool), spec_l2One.l1 N (x0) (x1) (x2) (x3) (x4) (x5) (x6) (x7) (x8) (x9) (x10) = some r → k (.tup [.agg [.int .i64 (r.1), .int .i64 (r.2.1), .int .i64 (r.2.2.1), .int .i64 (r.2.2.2.1)], .bool (r.2.2.2.2)]) ⟨[], []⟩ = some () → LP_51_1 k x0 x1 x2 x3 x4 x5 x6 x7 x8 x9 x10 = some ()
theorem L_51 (N : Nat) : S_51_0 N ∧ S_51_1 N := by
 induction N using Nat.strongRecOn with | _ N0 ih =>
 refine ⟨?_, ?_⟩
 ·intro k x0 x1 x2 x3 x4 x5 x6 x7 x8 x9 r h hk
  rcases N0 with _ | N
  · cases h
  first | rw [spec_l2One.l0] at h | simp only [spec_l2One.l0] at h | (unfold spec_l2One.l0 at h; dsimp only at h)
  refine loop_fold mC_51 mD_51 ?_
  refine (w_51_0 k x0 x1 x2 x3 x4 x5 x6 x7 x8 x9).trans ?_
  refine br_eti h rfl (fun c63 h => ?_) (fun c63 h => ?_)
  ·exact (ih N (by omega)).2 _ _ _ _ _ _ _ _ _ _ _ _ _ h hk
  refine br_g h rfl (fun c64 h => ?_)
  refine call_h N h (fun t1 e65 h => ?_)
  refine br_g h rfl (fun c66 h => ?_)
  refine br_g h rfl (fun c67 h => ?_)
  refine br_ite h rfl (fun c68 h => ?_) (fun c68 h => ?_)
  ·exact (ih N (by omega)).1 _ _ _ _ _ _ _ _ _ _ _ _ h hk
  exact (ih N (by omega)).1 _ _ _ _ _ _ _ _ _ _ _ _ h hk
 ·intro k x0 x1 x2 x3 x4 x5 x6 x7 x8 x9 x10 r h hk
  rcases N0 with _ | N
  · cases h
  first | rw [spec_l2One.l1] at h | simp only [spec_l2One.l1] at h | (unfold spec_l2One.l1 at h; dsimp only at h)
  refine loop_fold mC_51 mD_51 ?_
  refine (w_51_1 k x0 x1 x2 x3 x4 x5 x6 x7 x8 x9 x10).trans ?_
  refine br_ite h rfl (fun c69 h => ?_) (fun c69 h => ?_)
  ·refine br_g h rfl (fun c70 h => ?_)
   refine br_g h rfl (fun c71 h => ?_)
   refine call_h N h (fun t2 e72 h => ?_)
   refine br_etn h (congrArg not dect) (fun c73 h => ?_) (fun c73 h => ?_)
   ·cases h; exact hk
   refine br_g h rfl (fun c74 h => ?_)
   exact (ih N (by omega)).2 _ _ _ _ _ _ _ _ _ _ _ _ _ h hk
  refine br_g h rfl (fun c75 h => ?_)
  refine br_g h rfl (fun c76 h => ?_)
  refine br_etn h rfl (fun c77 h => ?_) (fun c77 h => ?_)
  ·cases h; exact hk
  refine br_eti h rfl (fun c78 h => ?_) (fun c78 h => ?_)
  ·refine br_eti h rfl (fun c79 h => ?_) (fun c79 h => ?_)
   ·refine br_eti h rfl (fun c80 h => ?_) (fun c80 h => ?_)
    ·cases h; exact hk
    refine br_g h rfl (fun c81 h => ?_)
    cases h; exact hk
   refine br_g h rfl (fun c82 h => ?_)
   refine br_eti h rfl (fun c83 h => ?_) (fun c83 h => ?_)
   ·cases h; exact hk
   refine br_g h rfl (fun c84 h => ?_)
   cases h; exact hk
  refine br_g h rfl (fun c85 h => ?_)
  refine br_g h rfl (fun c86 h => ?_)
  refine br_eti h rfl (fun c87 h => ?_) (fun c87 h => ?_)
  ·refine br_eti h rfl (fun c88 h => ?_) (fun c88 h => ?_)
   ·cases h; exact hk
   refine br_g h rfl (fun c89 h => ?_)
   cases h; exact hk
  refine br_g h rfl (fun c90 h => ?_)
  refine br_eti h rfl (fun c91 h => ?_) (fun c91 h => ?_)
  ·cases h; exact hk
  refine br_g h rfl (fun c92 h => ?_)
  cases h; exact hk
theorem okc_51 (args : List (AV tau)) (m : Mem tau) (κ : AV tau → Mem tau → Option Unit) (hh : c_51 args m κ = some ()) : ∃ av m1, κ av m1 = some () ∧ ToldA Tryd.prog TT (pnT 51) 51 args m av m1 := by
 obtain ⟨bx_, rw_⟩ := m
 unfold c_51 at hh
 simp only at hh
 split at hh
 case h_2 => cases hh
 rename_i b0
 obtain ⟨a0, hx0, hh0⟩ := bO_some hh
 have ex0 := asS_some hx0
 subst ex0
 obtain ⟨N, t, h, hκ⟩ := callX_some hh0
 refine ⟨_, _, hκ, told_of_run pq okC_51 (fun _ _ _ => drawA_ok pq okC_51 hmix) (E := E_51) (fn := Tryd.f51) (body := B_51) (by kernel_rfl) (by kernel_rfl) (by kernel_rfl) (by rfl) (by exact Nat.le_of_ble_eq_true rfl) (fun k hk => ?_)⟩
 refine (w_51 a0 k).trans ?_
 replace h : spec_l2One.f N a0 = some t := h
 unfold spec_l2One.f at h
 refine call_h N h (fun t0 e93 h => ?_)
 exact (L_51 N).1 _ _ _ _ _ _ _ _ _ _ _ _ h hk
noncomputable def C_11 : Ctr tau Unit := ctrS 51 c_51 C_51
noncomputable def D_11 : Drw tau := drawA E_11 C_11
theorem okC_11 : CtrOk Tryd.prog TT pnT C_11 := ctrS_ok okC_51 okc_51
theorem mC_11 : CtrMono C_11 := ctrS_mono mC_51 mc_51
theorem mD_11 : DrMono D_11 := drawA_mono mC_11
noncomputable def B_11 : Code := Tryd.f11.body.getD .skip
theorem mc_11 (args : List (AV tau)) (m : Mem tau) (k k' : AV tau → Mem tau → Option Unit) (hk : ∀ av m, k av m = some () → k' av m = some ()) (h : c_11 args m k = some ()) : c_11 args m k' = some () := by
 unfold c_11 at h ⊢
 split at h
 · repeat' first | exact callX_mono (fun _ h => hk _ _ h) h | refine bO_mono (fun _ h => ?_) h
 · cases h
noncomputable def K_11_0 (k : AV tau → Mem tau → Option Unit) : Kon tau := (kBlock 0 (kS E_11 C_11 D_11 (codeP B_11 [1, 1, 1, 1, 1, 1]) (kEnd E_11 Tryd.f11 k)))
def st_11_0 (x0 : Int) (x1 : (List S60)) (x2 : (List ByteArray)) : St tau := ⟨tmL 42 0 [(4, .own 0 0), (5, .own 1 0), (6, .int .i64 x0)], ⟨[], [some ⟨60, x1, 0⟩, some ⟨9, x2, 0⟩]⟩⟩
noncomputable def LP_11_0 (k : AV tau → Mem tau → Option Unit) (x0 : Int) (x1 : (List S60)) (x2 : (List ByteArray)) : Option Unit := loopA E_11 (codeA E_11 C_11 D_11 (codeP B_11 [1, 1, 1, 1, 1, 0, 1, 0, 0])) (codeP B_11 [1, 1, 1, 1, 1, 0, 1, 0, 0]) (K_11_0 k) (st_11_0 x0 x1 x2)
theorem w_11_0 (k : AV tau → Mem tau → Option Unit) (x0 : Int) (x1 : (List S60)) (x2 : (List ByteArray)) : codeA E_11 C_11 D_11 (codeP B_11 [1, 1, 1, 1, 1, 0, 1, 0, 0]) (kL E_11 C_11 D_11 (codeP B_11 [1, 1, 1, 1, 1, 0, 1, 0, 0]) (K_11_0 k)) (st_11_0 x0 x1 x2) = (brA (decide (x0 < ((x2.length : Nat) : Int))) (brA (decide ((0 : Int) ≤ x0)) (brA (decide (x0 < ((x2.length : Nat) : Int))) (callX (fun n => spec_l2One.f n (rdOf (default : ByteArray) x2 x0)) fun t1 => brA (!t1.2.2.2.2) (k (.tup [.own 0 0, .bool false]) ⟨[], [some ⟨60, ([] : List S60), 0⟩]⟩) (brA (decide ((x1.length + 1) ≤ 4398046511104)) (LP_11_0 k (wrap64 (x0 + (1 : Int))) (x1 ++ ([(⟨t1.1, t1.2.1, t1.2.2.1, t1.2.2.2.1⟩ : S60)] : List S60)) x2) (none))) (none)) (none)) (callX (fun n => spec_ProgOk.f n x1) fun t2 => brA (!t2) (k (.tup [.own 0 0, .bool false]) ⟨[], [some ⟨60, ([] : List S60), 0⟩]⟩) (k (.tup [.own 0 0, .bool true]) ⟨[], [some ⟨60, x1, 0⟩]⟩)) : Option Unit) := by
 simp only [← wrapA_i64]
 kernel_rfl
theorem w_11 (a0 : ByteArray) (k : AV tau → Mem tau → Option Unit) : fnA E_11 C_11 D_11 Tryd.f11 B_11 [.str a0] ⟨[], []⟩ k = (brA (decide (((a0.size : Nat) : Int) > (400 : Int))) (k (.tup [.own 0 0, .bool false]) ⟨[], [some ⟨60, ([] : List S60), 0⟩]⟩) (brA (decide (a0 = (bs []))) (k (.tup [.own 0 0, .bool true]) ⟨[], [some ⟨60, ([] : List S60), 0⟩]⟩) (callX (fun n => spec_l15Cut.f n a0 (44 : Int)) fun t0 => LP_11_0 k (0 : Int) ([] : List S60) t0)) : Option Unit) := by kernel_rfl
def S_11_0 (N : Nat) : Prop := ∀ (k : AV tau → Mem tau → Option Unit) (x0 : Int) (x1 : (List S60)) (x2 : (List ByteArray)) (r : (List S60) × Bool), spec_ProgRead.l0 N (x0) (x1) (x2) = some r → k (.tup [.own 0 0, .bool (r.2)]) ⟨[], [some ⟨60, r.1, 0⟩]⟩ = some () → LP_11_0 k x0 x1 x2 = some ()
theorem L_11 (N : Nat) : S_11_0 N := by
 induction N using Nat.strongRecOn with | _ N0 ih =>
 skip
 intro k x0 x1 x2 r h hk
 rcases N0 with _ | N
 · cases h
 first | rw [spec_ProgRead.l0] at h | simp only [spec_ProgRead.l0] at h | (unfold spec_ProgRead.l0 at h; dsimp only at h)
 refine loop_fold mC_11 mD_11 ?_
 refine (w_11_0 k x0 x1 x2).trans ?_
 refine br_eti h rfl (fun c23 h => ?_) (fun c23 h => ?_)
 ·refine call_h N h (fun t2 e24 h => ?_)
  refine br_itn h (congrArg not dect) (fun c25 h => ?_) (fun c25 h => ?_)
  ·cases h; exact hk
  cases h; exact hk
 refine br_g h rfl (fun c26 h => ?_)
 refine br_g h rfl (fun c27 h => ?_)
 refine call_h N h (fun t1 e28 h => ?_)
 refine br_etn h (congrArg not dect) (fun c29 h => ?_) (fun c29 h => ?_)
 ·cases h; exact hk
 refine br_g h rfl (fun c30 h => ?_)
 exact (ih N (by omega)) _ _ _ _ _ h hk
theorem okc_11 (args : List (AV tau)) (m : Mem tau) (κ : AV tau → Mem tau → Option Unit) (hh : c_11 args m κ = some ()) : ∃ av m1, κ av m1 = some () ∧ ToldA Tryd.prog TT (pnT 11) 11 args m av m1 := by
 obtain ⟨bx_, rw_⟩ := m
 unfold c_11 at hh
 simp only at hh
 split at hh
 case h_2 => cases hh
 rename_i b0
 obtain ⟨a0, hx0, hh0⟩ := bO_some hh
 have ex0 := asS_some hx0
 subst ex0
 obtain ⟨N, t, h, hκ⟩ := callX_some hh0
 refine ⟨_, _, hκ, told_of_run pq okC_11 (fun _ _ _ => drawA_ok pq okC_11 hmix) (E := E_11) (fn := Tryd.f11) (body := B_11) (by kernel_rfl) (by kernel_rfl) (by kernel_rfl) (by rfl) (by exact Nat.le_of_ble_eq_true rfl) (fun k hk => ?_)⟩
 refine (w_11 a0 k).trans ?_
 replace h : spec_ProgRead.f N a0 = some t := h
 unfold spec_ProgRead.f at h
 refine br_ite h rfl (fun c31 h => ?_) (fun c31 h => ?_)
 ·cases h; exact hk
 refine br_ite h rfl (fun c32 h => ?_) (fun c32 h => ?_)
 ·cases h; exact hk
 refine call_h N h (fun t0 e33 h => ?_)
 exact (L_11 N) _ _ _ _ _ h hk
noncomputable def C_5 : Ctr tau Unit := ctrS 11 c_11 C_11
noncomputable def D_5 : Drw tau := drawA E_5 C_5
theorem okC_5 : CtrOk Tryd.prog TT pnT C_5 := ctrS_ok okC_11 okc_11
theorem mC_5 : CtrMono C_5 := ctrS_mono mC_11 mc_11
theorem mD_5 : DrMono D_5 := drawA_mono mC_5
noncomputable def B_5 : Code := Tryd.f5.body.getD .skip
theorem mc_5 (args : List (AV tau)) (m : Mem tau) (k k' : AV tau → Mem tau → Option Unit) (hk : ∀ av m, k av m = some () → k' av m = some ()) (h : c_5 args m k = some ()) : c_5 args m k' = some () := by
 unfold c_5 at h ⊢
 split at h
 · repeat' first | exact callX_mono (fun _ h => hk _ _ h) h | refine bO_mono (fun _ h => ?_) h
 · cases h
noncomputable def K_5_0 (k : AV tau → Mem tau → Option Unit) : Kon tau := (kBlock 0 (kS E_5 C_5 D_5 (codeP B_5 [1, 1, 1, 1, 1, 1, 1, 1, 1, 1, 1, 1, 1]) (kEnd E_5 Tryd.f5 k)))
noncomputable def K_5_1 (k : AV tau → Mem tau → Option Unit) : Kon tau := (kBlock 2 (kS E_5 C_5 D_5 (codeP B_5 [1, 1, 1, 1, 1, 1, 1, 1, 1, 1, 1, 1, 1, 1]) (kEnd E_5 Tryd.f5 k)))
def st_5_0 (x0 : Int) (x1 : (List S60)) (x2 : (List Int)) (x3 : (List Int)) : St tau := ⟨tmL 175 0 [(5, .own 0 0), (14, .own 1 0), (15, .own 2 0), (16, .int .i64 x0)], ⟨[], [some ⟨60, x1, 0⟩, some ⟨3, x2, 0⟩, some ⟨3, x3, 0⟩]⟩⟩
noncomputable def LP_5_0 (k : AV tau → Mem tau → Option Unit) (x0 : Int) (x1 : (List S60)) (x2 : (List Int)) (x3 : (List Int)) : Option Unit := loopA E_5 (codeA E_5 C_5 D_5 (codeP B_5 [1, 1, 1, 1, 1, 1, 1, 1, 1, 1, 1, 1, 0, 1, 0, 0])) (codeP B_5 [1, 1, 1, 1, 1, 1, 1, 1, 1, 1, 1, 1, 0, 1, 0, 0]) (K_5_0 k) (st_5_0 x0 x1 x2 x3)
def st_5_1 (x0 : Int) (x1 : (List S60)) (x2 : (List Int)) (x3 : (List Int)) : St tau := ⟨tmL 175 0 [(5, .own 0 0), (14, .own 1 0), (15, .own 2 0), (17, .int .i64 x0)], ⟨[], [some ⟨60, x1, 0⟩, some ⟨3, x2, 0⟩, some ⟨3, x3, 0⟩]⟩⟩
noncomputable def LP_5_1 (k : AV tau → Mem tau → Option Unit) (x0 : Int) (x1 : (List S60)) (x2 : (List Int)) (x3 : (List Int)) : Option Unit := loopA E_5 (codeA E_5 C_5 D_5 (codeP B_5 [1, 1, 1, 1, 1, 1, 1, 1, 1, 1, 1, 1, 1, 0, 1, 0, 0])) (codeP B_5 [1, 1, 1, 1, 1, 1, 1, 1, 1, 1, 1, 1, 1, 0, 1, 0, 0]) (K_5_1 k) (st_5_1 x0 x1 x2 x3)
theorem w_5_0 (k : AV tau → Mem tau → Option Unit) (x0 : Int) (x1 : (List S60)) (x2 : (List Int)) (x3 : (List Int)) : codeA E_5 C_5 D_5 (codeP B_5 [1, 1, 1, 1, 1, 1, 1, 1, 1, 1, 1, 1, 0, 1, 0, 0]) (kL E_5 C_5 D_5 (codeP B_5 [1, 1, 1, 1, 1, 1, 1, 1, 1, 1, 1, 1, 0, 1, 0, 0]) (K_5_0 k)) (st_5_0 x0 x1 x2 x3) = (brA (decide (x0 < ((x2.length : Nat) : Int))) (brA (decide ((0 : Int) ≤ x0)) (brA (decide (x0 < ((x2.length : Nat) : Int))) (brA (decide ((rd x2 x0) < (0 : Int))) (k (.bool false) ⟨[], []⟩) (brA (decide ((0 : Int) ≤ x0)) (brA (decide (x0 < ((x2.length : Nat) : Int))) (brA (decide ((rd x2 x0) ≥ (4 : Int))) (k (.bool false) ⟨[], []⟩) (brA (decide (x0 > (0 : Int))) (brA (decide ((0 : Int) ≤ x0)) (brA (decide (x0 < ((x2.length : Nat) : Int))) (brA (decide ((0 : Int) ≤ (wrap64 (x0 - (1 : Int))))) (brA (decide ((wrap64 (x0 - (1 : Int))) < ((x2.length : Nat) : Int))) (brA (decide ((rd x2 x0) ≤ (rd x2 (wrap64 (x0 - (1 : Int)))))) (k (.bool false) ⟨[], []⟩) (LP_5_0 k (wrap64 (x0 + (1 : Int))) x1 x2 x3)) (none)) (none)) (none)) (none)) (LP_5_0 k (wrap64 (x0 + (1 : Int))) x1 x2 x3))) (none)) (none))) (none)) (none)) (LP_5_1 k (0 : Int) x1 x2 x3) : Option Unit) := by
 simp only [← wrapA_i64]
 kernel_rfl
theorem w_5_1 (k : AV tau → Mem tau → Option Unit) (x0 : Int) (x1 : (List S60)) (x2 : (List Int)) (x3 : (List Int)) : codeA E_5 C_5 D_5 (codeP B_5 [1, 1, 1, 1, 1, 1, 1, 1, 1, 1, 1, 1, 1, 0, 1, 0, 0]) (kL E_5 C_5 D_5 (codeP B_5 [1, 1, 1, 1, 1, 1, 1, 1, 1, 1, 1, 1, 1, 0, 1, 0, 0]) (K_5_1 k)) (st_5_1 x0 x1 x2 x3) = (brA (decide (x0 < ((x3.length : Nat) : Int))) (brA (decide ((0 : Int) ≤ x0)) (brA (decide (x0 < ((x3.length : Nat) : Int))) (brA (decide ((rd x3 x0) < (0 : Int))) (k (.bool false) ⟨[], []⟩) (brA (decide ((0 : Int) ≤ x0)) (brA (decide (x0 < ((x3.length : Nat) : Int))) (brA (decide ((rd x3 x0) ≥ (4 : Int))) (k (.bool false) ⟨[], []⟩) (brA (decide (x0 > (0 : Int))) (brA (decide ((0 : Int) ≤ x0)) (brA (decide (x0 < ((x3.length : Nat) : Int))) (brA (decide ((0 : Int) ≤ (wrap64 (x0 - (1 : Int))))) (brA (decide ((wrap64 (x0 - (1 : Int))) < ((x3.length : Nat) : Int))) (brA (decide ((rd x3 x0) ≤ (rd x3 (wrap64 (x0 - (1 : Int)))))) (k (.bool false) ⟨[], []⟩) (LP_5_1 k (wrap64 (x0 + (1 : Int))) x1 x2 x3)) (none)) (none)) (none)) (none)) (LP_5_1 k (wrap64 (x0 + (1 : Int))) x1 x2 x3))) (none)) (none))) (none)) (none)) (callX (fun n => spec_ProgLoads.f n x1) fun t26 => brA (decide (((x2.length : Nat) : Int) = ((t26.length : Nat) : Int))) (callX (fun n => spec_ProgPuts.f n x1) fun t27 => k (.bool (decide (((x3.length : Nat) : Int) = ((t27.length : Nat) : Int)))) ⟨[], []⟩) (k (.bool false) ⟨[], []⟩)) : Option Unit) := by
 simp only [← wrapA_i64]
 kernel_rfl
theorem w_5 (l0 : List Int) (l1 : List Int) (k : AV tau → Mem tau → Option Unit) : fnA E_5 C_5 D_5 Tryd.f5 B_5 [.sl 5 l0, .sl 5 l1] ⟨[], []⟩ k = (brA (decide (((l0.length : Nat) : Int) > (1048576 : Int))) (k (.bool true) ⟨[], []⟩) (brA (decide (((l1.length : Nat) : Int) > (1048576 : Int))) (k (.bool true) ⟨[], []⟩) (callX (fun n => spec_DrawProgText.f n l0) fun t0 => callX (fun n => impl_ProgText.f n t0) fun t1 => callX (fun n => impl_ProgRead.f n t1) fun t2 => callX (fun n => spec_ProgText.f n t0) fun t3 => brA (!(decide (t1 = t3))) (k (.bool false) ⟨[], []⟩) (callX (fun n => impl_ProgOk.f n t0) fun t4 => callX (fun n => spec_ProgOk.f n t0) fun t5 => brA (!(t4 == t5)) (k (.bool false) ⟨[], []⟩) (callX (fun n => spec_ProgOk.f n t0) fun t6 => brA t6 (brA (!t2.2) (k (.bool false) ⟨[], []⟩) (callX (fun n => impl_ProgSame.f n t2.1 t0) fun t7 => brA (!t7) (k (.bool false) ⟨[], []⟩) (callX (fun n => spec_DrawProgRead.f n l1) fun t8 => callX (fun n => impl_ProgRead.f n t8) fun t9 => callX (fun n => spec_ProgRead.f n t8) fun t10 => brA (!(t9.2 == t10.2)) (k (.bool false) ⟨[], []⟩) (brA t9.2 (callX (fun n => impl_ProgText.f n t9.1) fun t11 => brA (!(decide (t11 = t8))) (k (.bool false) ⟨[], []⟩) (callX (fun n => impl_ProgOk.f n t9.1) fun t12 => brA (!t12) (k (.bool false) ⟨[], []⟩) (callX (fun n => impl_ProgLoads.f n t0) fun t13 => callX (fun n => impl_ProgPuts.f n t0) fun t14 => LP_5_0 k (0 : Int) t0 t13 t14))) (callX (fun n => impl_ProgLoads.f n t0) fun t15 => callX (fun n => impl_ProgPuts.f n t0) fun t16 => LP_5_0 k (0 : Int) t0 t15 t16))))) (callX (fun n => spec_DrawProgRead.f n l1) fun t17 => callX (fun n => impl_ProgRead.f n t17) fun t18 => callX (fun n => spec_ProgRead.f n t17) fun t19 => brA (!(t18.2 == t19.2)) (k (.bool false) ⟨[], []⟩) (brA t18.2 (callX (fun n => impl_ProgText.f n t18.1) fun t20 => brA (!(decide (t20 = t17))) (k (.bool false) ⟨[], []⟩) (callX (fun n => impl_ProgOk.f n t18.1) fun t21 => brA (!t21) (k (.bool false) ⟨[], []⟩) (callX (fun n => impl_ProgLoads.f n t0) fun t22 => callX (fun n => impl_ProgPuts.f n t0) fun t23 => LP_5_0 k (0 : Int) t0 t22 t23))) (callX (fun n => impl_ProgLoads.f n t0) fun t24 => callX (fun n => impl_ProgPuts.f n t0) fun t25 => LP_5_0 k (0 : Int) t0 t24 t25))))))) : Option Unit) := by kernel_rfl
def S_5_0 (N : Nat) : Prop := ∀ (k : AV tau → Mem tau → Option Unit) (x0 : Int) (x1 : (List S60)) (x2 : (List Int)) (x3 : (List Int)) (r : Bool), laws_FnProg.l0 N (x0) (x1) (x2) (x3) = some r → k (.bool (r)) ⟨[], []⟩ = some () → LP_5_0 k x0 x1 x2 x3 = some ()
def S_5_1 (N : Nat) : Prop := ∀ (k : AV tau → Mem tau → Option Unit) (x0 : Int) (x1 : (List S60)) (x2 : (List Int)) (x3 : (List Int)) (r : Bool), laws_FnProg.l1 N (x0) (x1) (x2) (x3) = some r → k (.bool (r)) ⟨[], []⟩ = some () → LP_5_1 k x0 x1 x2 x3 = some ()
theorem L_5 (N : Nat) : S_5_0 N ∧ S_5_1 N := by
 induction N using Nat.strongRecOn with | _ N0 ih =>
 refine ⟨?_, ?_⟩
 ·intro k x0 x1 x2 x3 r h hk
  rcases N0 with _ | N
  · cases h
  first | rw [laws_FnProg.l0] at h | simp only [laws_FnProg.l0] at h | (unfold laws_FnProg.l0 at h; dsimp only at h)
  refine loop_fold mC_5 mD_5 ?_
  refine (w_5_0 k x0 x1 x2 x3).trans ?_
  refine br_eti h rfl (fun c141 h => ?_) (fun c141 h => ?_)
  ·exact (ih N (by omega)).2 _ _ _ _ _ _ h hk
  refine br_g h rfl (fun c142 h => ?_)
  refine br_g h rfl (fun c143 h => ?_)
  refine br_ite h rfl (fun c144 h => ?_) (fun c144 h => ?_)
  ·cases h; exact hk
  refine br_g h rfl (fun c145 h => ?_)
  refine br_g h rfl (fun c146 h => ?_)
  refine br_ite h rfl (fun c147 h => ?_) (fun c147 h => ?_)
  ·cases h; exact hk
  refine br_eti h rfl (fun c148 h => ?_) (fun c148 h => ?_)
  ·exact (ih N (by omega)).1 _ _ _ _ _ _ h hk
  refine br_g h rfl (fun c149 h => ?_)
  refine br_g h rfl (fun c150 h => ?_)
  refine br_g h rfl (fun c151 h => ?_)
  refine br_g h rfl (fun c152 h => ?_)
  refine br_ite h rfl (fun c153 h => ?_) (fun c153 h => ?_)
  ·cases h; exact hk
  exact (ih N (by omega)).1 _ _ _ _ _ _ h hk
 ·intro k x0 x1 x2 x3 r h hk
  rcases N0 with _ | N
  · cases h
  first | rw [laws_FnProg.l1] at h | simp only [laws_FnProg.l1] at h | (unfold laws_FnProg.l1 at h; dsimp only at h)
  refine loop_fold mC_5 mD_5 ?_
  refine (w_5_1 k x0 x1 x2 x3).trans ?_
  refine br_eti h rfl (fun c154 h => ?_) (fun c154 h => ?_)
  ·refine call_h N h (fun t26 e155 h => ?_)
   refine br_eti h rfl (fun c156 h => ?_) (fun c156 h => ?_)
   ·cases h; exact hk
   refine call_h N h (fun t27 e157 h => ?_)
   cases h; exact hk
  refine br_g h rfl (fun c158 h => ?_)
  refine br_g h rfl (fun c159 h => ?_)
  refine br_ite h rfl (fun c160 h => ?_) (fun c160 h => ?_)
  ·cases h; exact hk
  refine br_g h rfl (fun c161 h => ?_)
  refine br_g h rfl (fun c162 h => ?_)
  refine br_ite h rfl (fun c163 h => ?_) (fun c163 h => ?_)
  ·cases h; exact hk
  refine br_eti h rfl (fun c164 h => ?_) (fun c164 h => ?_)
  ·exact (ih N (by omega)).2 _ _ _ _ _ _ h hk
  refine br_g h rfl (fun c165 h => ?_)
  refine br_g h rfl (fun c166 h => ?_)
  refine br_g h rfl (fun c167 h => ?_)
  refine br_g h rfl (fun c168 h => ?_)
  refine br_ite h rfl (fun c169 h => ?_) (fun c169 h => ?_)
  ·cases h; exact hk
  exact (ih N (by omega)).2 _ _ _ _ _ _ h hk
theorem okc_5 (args : List (AV tau)) (m : Mem tau) (κ : AV tau → Mem tau → Option Unit) (hh : c_5 args m κ = some ()) : ∃ av m1, κ av m1 = some () ∧ ToldA Tryd.prog TT (pnT 5) 5 args m av m1 := by
 obtain ⟨bx_, rw_⟩ := m
 unfold c_5 at hh
 simp only at hh
 split at hh
 case h_2 => cases hh
 rename_i b0 b1
 obtain ⟨l0, hx0, hh0⟩ := bO_some hh
 obtain ⟨l1, hx1, hh1⟩ := bO_some hh0
 have ex0 := asSl_some hx0
 have ex1 := asSl_some hx1
 subst ex0 ex1
 obtain ⟨N, t, h, hκ⟩ := callX_some hh1
 refine ⟨_, _, hκ, told_of_run pq okC_5 (fun _ _ _ => drawA_ok pq okC_5 hmix) (E := E_5) (fn := Tryd.f5) (body := B_5) (by kernel_rfl) (by kernel_rfl) (by kernel_rfl) (by rfl) (by exact Nat.le_of_ble_eq_true rfl) (fun k hk => ?_)⟩
 refine (w_5 l0 l1 k).trans ?_
 replace h : laws_FnProg.f N l0 l1 = some t := h
 unfold laws_FnProg.f at h
 refine br_ite h rfl (fun c170 h => ?_) (fun c170 h => ?_)
 ·cases h; exact hk
 refine br_ite h rfl (fun c171 h => ?_) (fun c171 h => ?_)
 ·cases h; exact hk
 refine call_h N h (fun t0 e172 h => ?_)
 refine call_h N h (fun t1 e173 h => ?_)
 refine call_h N h (fun t2 e174 h => ?_)
 refine call_h N h (fun t3 e175 h => ?_)
 refine br_etn h rfl (fun c176 h => ?_) (fun c176 h => ?_)
 ·cases h; exact hk
 refine call_h N h (fun t4 e177 h => ?_)
 refine call_h N h (fun t5 e178 h => ?_)
 refine br_etn h (by first | rfl | exact dect | exact (congrArg not dect) | (simp; done) | (simp [beqI]; done) | (simp; omega)) (fun c179 h => ?_) (fun c179 h => ?_)
 ·cases h; exact hk
 refine call_h N h (fun t6 e180 h => ?_)
 refine br_eti h dect (fun c181 h => ?_) (fun c181 h => ?_)
 ·refine call_h N h (fun t17 e182 h => ?_)
  refine call_h N h (fun t18 e183 h => ?_)
  refine call_h N h (fun t19 e184 h => ?_)
  refine br_etn h (by first | rfl | exact dect | exact (congrArg not dect) | (simp; done) | (simp [beqI]; done) | (simp; omega)) (fun c185 h => ?_) (fun c185 h => ?_)
  ·cases h; exact hk
  refine br_eti h dect (fun c186 h => ?_) (fun c186 h => ?_)
  ·refine call_h N h (fun t24 e187 h => ?_)
   refine call_h N h (fun t25 e188 h => ?_)
   exact (L_5 N).1 _ _ _ _ _ _ h hk
  refine call_h N h (fun t20 e189 h => ?_)
  refine br_etn h rfl (fun c190 h => ?_) (fun c190 h => ?_)
  ·cases h; exact hk
  refine call_h N h (fun t21 e191 h => ?_)
  refine br_etn h (congrArg not dect) (fun c192 h => ?_) (fun c192 h => ?_)
  ·cases h; exact hk
  refine call_h N h (fun t22 e193 h => ?_)
  refine call_h N h (fun t23 e194 h => ?_)
  exact (L_5 N).1 _ _ _ _ _ _ h hk
 refine br_etn h (congrArg not dect) (fun c195 h => ?_) (fun c195 h => ?_)
 ·cases h; exact hk
 refine call_h N h (fun t7 e196 h => ?_)
 refine br_etn h (congrArg not dect) (fun c197 h => ?_) (fun c197 h => ?_)
 ·cases h; exact hk
 refine call_h N h (fun t8 e198 h => ?_)
 refine call_h N h (fun t9 e199 h => ?_)
 refine call_h N h (fun t10 e200 h => ?_)
 refine br_etn h (by first | rfl | exact dect | exact (congrArg not dect) | (simp; done) | (simp [beqI]; done) | (simp; omega)) (fun c201 h => ?_) (fun c201 h => ?_)
 ·cases h; exact hk
 refine br_eti h dect (fun c202 h => ?_) (fun c202 h => ?_)
 ·refine call_h N h (fun t15 e203 h => ?_)
  refine call_h N h (fun t16 e204 h => ?_)
  exact (L_5 N).1 _ _ _ _ _ _ h hk
 refine call_h N h (fun t11 e205 h => ?_)
 refine br_etn h rfl (fun c206 h => ?_) (fun c206 h => ?_)
 ·cases h; exact hk
 refine call_h N h (fun t12 e207 h => ?_)
 refine br_etn h (congrArg not dect) (fun c208 h => ?_) (fun c208 h => ?_)
 ·cases h; exact hk
 refine call_h N h (fun t13 e209 h => ?_)
 refine call_h N h (fun t14 e210 h => ?_)
 exact (L_5 N).1 _ _ _ _ _ _ h hk
end Go.Proofs.YtlpgpckggnimhaaDoor.PFnProg