/- The machine's texts of FnExactBoxText (links). Conditions: none. -/
import Derived.Test.YtlpgpckggnimhaaDoorPFnExactBoxTextx1
set_option linter.unusedVariables false
set_option linter.unusedSimpArgs false
set_option maxRecDepth 100000
set_option maxHeartbeats 4000000
namespace Go.Proofs.YtlpgpckggnimhaaDoor.PFnExactBoxText
open Go.RowKit Go.Proofs.YtlpgpckggnimhaaDoorW.PrintWords Go.Proofs.YtlpgpckggnimhaaDoorW.PrintLast Go.Proofs.YtlpgpckggnimhaaDoorW.PrintMore
open Go Go.Proofs Am
noncomputable def C_59 : Ctr tau Unit := ctr0
theorem okC_59 : CtrOk Tryd.prog TT pnT C_59 := ctr0_ok
theorem mC_59 : CtrMono C_59 := ctr0_mono
theorem mc_59 (args : List (AV tau)) (m : Mem tau) (k k' : AV tau → Mem tau → Option Unit) (hk : ∀ av m, k av m = some () → k' av m = some ()) (h : c_59 args m k = some ()) : c_59 args m k' = some () := by
 unfold c_59 at h ⊢
 split at h
 · repeat' first | exact callX_mono (fun _ h => hk _ _ h) h | refine bO_mono (fun _ h => ?_) h
 · cases h
theorem okc_59 (args : List (AV tau)) (m : Mem tau) (κ : AV tau → Mem tau → Option Unit) (hh : c_59 args m κ = some ()) : ∃ av m1, κ av m1 = some () ∧ ToldA Tryd.prog TT (pnT 59) 59 args m av m1 := by
 obtain ⟨bx_, rw_⟩ := m
 unfold c_59 at hh
 simp only at hh
 split at hh
 case h_2 => cases hh
 rename_i b0 b1 r0
 obtain ⟨u0, hx0, hh0⟩ := bO_some hh
 obtain ⟨l0, hx1, hh1⟩ := bO_some hh0
 obtain ⟨a1, hx2, hh2⟩ := bO_some hh1
 have ex0 := asOwn_some hx0
 have ex1 := asRow_some hx1
 have ex2 := asS_some hx2
 subst ex0 ex1 ex2
 obtain ⟨N, t, h, hκ⟩ := callX_some hh2
 replace h : strings_Join.f N l0 a1 = some t := h
 refine ⟨_, _, hκ, ?_⟩
 unfold strings_Join.f at h
 split at h
 case isFalse => cases h
 rename_i hb
 cases h
 exact told_join (e := 9) (xs := (l0 : List ByteArray)) (ys := l0) ⟨Tryd.f59, by kernel_rfl, by kernel_rfl, by kernel_rfl⟩ rfl rfl (fun j x y hx hy => by
   have := hx.symm.trans hy
   cases this; rfl) (fun hz w A c => by
   have hz' : l0 = [] := List.eq_nil_of_length_eq_zero hz
   subst hz'
   exact Any.strings_Join_none Tryd.lays156 Tryd.Builder_Extra_156 A c a1 w) (fun w g o c hc hg hle => Any.strings_Join Tryd.lays156 Tryd.Builder_Extra_156 g o c l0 a1 w hc hg hb.1 hle hb.2)
noncomputable def C_58 : Ctr tau Unit := ctrS 59 c_59 C_59
theorem okC_58 : CtrOk Tryd.prog TT pnT C_58 := ctrS_ok okC_59 okc_59
theorem mC_58 : CtrMono C_58 := ctrS_mono mC_59 mc_59
theorem mc_58 (args : List (AV tau)) (m : Mem tau) (k k' : AV tau → Mem tau → Option Unit) (hk : ∀ av m, k av m = some () → k' av m = some ()) (h : c_58 args m k = some ()) : c_58 args m k' = some () := by
 unfold c_58 at h ⊢
 split at h
 · repeat' first | exact callX_mono (fun _ h => hk _ _ h) h | refine bO_mono (fun _ h => ?_) h
 · cases h
theorem okc_58 (args : List (AV tau)) (m : Mem tau) (κ : AV tau → Mem tau → Option Unit) (hh : c_58 args m κ = some ()) : ∃ av m1, κ av m1 = some () ∧ ToldA Tryd.prog TT (pnT 58) 58 args m av m1 := by
 obtain ⟨bx_, rw_⟩ := m
 unfold c_58 at hh
 simp only at hh
 split at hh
 case h_2 => cases hh
 rename_i b0
 obtain ⟨a0, hx0, hh0⟩ := bO_some hh
 have ex0 := asI_some hx0
 subst ex0
 obtain ⟨N, t, h, hκ⟩ := callX_some hh0
 replace h : strconv_Itoa.f N a0 = some t := h
 refine ⟨_, _, hκ, ?_⟩
 unfold strconv_Itoa.f at h
 split at h
 case isFalse => cases h
 rename_i hb
 cases h
 exact told_num ⟨Tryd.f58, by kernel_rfl, by kernel_rfl, by kernel_rfl⟩ (fun w S hg => (Any.strconv_Itoa Tryd.laysM171 a0 hb.1 hb.2 w hg.2.2.2.2).mono fun e w' ⟨he, d, os, hw⟩ => ⟨he, hw ▸ below_grown w d os⟩)
noncomputable def C_63 : Ctr tau Unit := ctrS 58 c_58 C_58
theorem okC_63 : CtrOk Tryd.prog TT pnT C_63 := ctrS_ok okC_58 okc_58
theorem mC_63 : CtrMono C_63 := ctrS_mono mC_58 mc_58
theorem mc_63 (args : List (AV tau)) (m : Mem tau) (k k' : AV tau → Mem tau → Option Unit) (hk : ∀ av m, k av m = some () → k' av m = some ()) (h : c_63 args m k = some ()) : c_63 args m k' = some () := by
 unfold c_63 at h ⊢
 split at h
 · repeat' first | exact callX_mono (fun _ h => hk _ _ h) h | refine bO_mono (fun _ h => ?_) h
 · cases h
theorem okc_63 (args : List (AV tau)) (m : Mem tau) (κ : AV tau → Mem tau → Option Unit) (hh : c_63 args m κ = some ()) : ∃ av m1, κ av m1 = some () ∧ ToldA Tryd.prog TT (pnT 63) 63 args m av m1 := by
 obtain ⟨bx_, rw_⟩ := m
 unfold c_63 at hh
 simp only at hh
 split at hh
 case h_2 => cases hh
 rename_i b0
 obtain ⟨a0, hx0, hh0⟩ := bO_some hh
 have ex0 := asI_some hx0
 subst ex0
 obtain ⟨N, t, h, hκ⟩ := callX_some hh0
 replace h : spec_l15Dec.f N a0 = some t := h
 refine ⟨_, _, hκ, ?_⟩
 exact told_num ⟨Tryd.f63, by kernel_rfl, by kernel_rfl, by kernel_rfl⟩ (fun w S _ => spec_l15Dec.calls N a0 t w h)
noncomputable def C_37 : Ctr tau Unit := ctrS 63 c_63 C_63
noncomputable def D_37 : Drw tau := drawA E_37 C_37
theorem okC_37 : CtrOk Tryd.prog TT pnT C_37 := ctrS_ok okC_63 okc_63
theorem mC_37 : CtrMono C_37 := ctrS_mono mC_63 mc_63
theorem mD_37 : DrMono D_37 := drawA_mono mC_37
noncomputable def B_37 : Code := Tryd.f37.body.getD .skip
theorem mc_37 (args : List (AV tau)) (m : Mem tau) (k k' : AV tau → Mem tau → Option Unit) (hk : ∀ av m, k av m = some () → k' av m = some ()) (h : c_37 args m k = some ()) : c_37 args m k' = some () := by
 unfold c_37 at h ⊢
 split at h
 · repeat' first | exact callX_mono (fun _ h => hk _ _ h) h | refine bO_mono (fun _ h => ?_) h
 · cases h
theorem w_37 (l0 : List S90) (a1 : Int) (k : AV tau → Mem tau → Option Unit) : fnA E_37 C_37 D_37 Tryd.f37 B_37 [.sl 90 l0, .int .i64 a1] ⟨[], []⟩ k = (brA (decide ((wrap64 (a1 - ((l0.length : Nat) : Int))) < (0 : Int))) (k (.int .i64 (-(1 : Int))) ⟨[], []⟩) (k (.int .i64 (wrap64 (a1 - ((l0.length : Nat) : Int)))) ⟨[], []⟩) : Option Unit) := by
 simp only [← wrapA_i64]
 kernel_rfl
theorem okc_37 (args : List (AV tau)) (m : Mem tau) (κ : AV tau → Mem tau → Option Unit) (hh : c_37 args m κ = some ()) : ∃ av m1, κ av m1 = some () ∧ ToldA Tryd.prog TT (pnT 37) 37 args m av m1 := by
 obtain ⟨bx_, rw_⟩ := m
 unfold c_37 at hh
 simp only at hh
 split at hh
 case h_2 => cases hh
 rename_i b0 b1
 obtain ⟨l0, hx0, hh0⟩ := bO_some hh
 obtain ⟨a1, hx1, hh1⟩ := bO_some hh0
 have ex0 := asSl_some hx0
 have ex1 := asI_some hx1
 subst ex0 ex1
 obtain ⟨N, t, h, hκ⟩ := callX_some hh1
 refine ⟨_, _, hκ, told_of_run pq okC_37 (fun _ _ _ => drawA_ok pq okC_37 hmix) (E := E_37) (fn := Tryd.f37) (body := B_37) (by kernel_rfl) (by kernel_rfl) (by kernel_rfl) (by rfl) (by exact Nat.le_of_ble_eq_true rfl) (fun k hk => ?_)⟩
 refine (w_37 l0 a1 k).trans ?_
 replace h : laws_szBoxS.f l0 a1 = some t := h
 unfold laws_szBoxS.f at h
 refine br_ite h rfl (fun c2 h => ?_) (fun c2 h => ?_)
 ·cases h; exact hk
 cases h; exact hk
noncomputable def C_79 : Ctr tau Unit := ctrS 37 c_37 C_37
noncomputable def D_79 : Drw tau := drawA E_79 C_79
theorem okC_79 : CtrOk Tryd.prog TT pnT C_79 := ctrS_ok okC_37 okc_37
theorem mC_79 : CtrMono C_79 := ctrS_mono mC_37 mc_37
theorem mD_79 : DrMono D_79 := drawA_mono mC_79
noncomputable def B_79 : Code := Tryd.f79.body.getD .skip
theorem mc_79 (args : List (AV tau)) (m : Mem tau) (k k' : AV tau → Mem tau → Option Unit) (hk : ∀ av m, k av m = some () → k' av m = some ()) (h : c_79 args m k = some ()) : c_79 args m k' = some () := by
 unfold c_79 at h ⊢
 split at h
 · repeat' first | exact callX_mono (fun _ h => hk _ _ h) h | refine bO_mono (fun _ h => ?_) h
 · cases h
theorem w_79 (a0_0 : Int) (a0_1 : Int) (k : AV tau → Mem tau → Option Unit) : fnA E_79 C_79 D_79 Tryd.f79 B_79 [.agg [.int .i64 a0_0, .int .i64 a0_1]] ⟨[], []⟩ k = (k (.agg [.int .i64 a0_0, .int .i64 a0_1]) ⟨[], []⟩ : Option Unit) := by kernel_rfl
theorem okc_79 (args : List (AV tau)) (m : Mem tau) (κ : AV tau → Mem tau → Option Unit) (hh : c_79 args m κ = some ()) : ∃ av m1, κ av m1 = some () ∧ ToldA Tryd.prog TT (pnT 79) 79 args m av m1 := by
 obtain ⟨bx_, rw_⟩ := m
 unfold c_79 at hh
 simp only at hh
 split at hh
 case h_2 => cases hh
 rename_i b0 b1
 obtain ⟨a0_0, hx0, hh0⟩ := bO_some hh
 obtain ⟨a0_1, hx1, hh1⟩ := bO_some hh0
 have ex0 := asI_some hx0
 have ex1 := asI_some hx1
 subst ex0 ex1
 obtain ⟨N, t, h, hκ⟩ := callX_some hh1
 refine ⟨_, _, hκ, told_of_run pq okC_79 (fun _ _ _ => drawA_ok pq okC_79 hmix) (E := E_79) (fn := Tryd.f79) (body := B_79) (by kernel_rfl) (by kernel_rfl) (by kernel_rfl) (by rfl) (by exact Nat.le_of_ble_eq_true rfl) (fun k hk => ?_)⟩
 refine (w_79 a0_0 a0_1 k).trans ?_
 replace h : laws_toBox.f a0_0 a0_1 = some t := h
 unfold laws_toBox.f at h
 cases h; exact hk
noncomputable def C_38 : Ctr tau Unit := ctrS 79 c_79 C_79
noncomputable def D_38 : Drw tau := drawA E_38 C_38
theorem okC_38 : CtrOk Tryd.prog TT pnT C_38 := ctrS_ok okC_79 okc_79
theorem mC_38 : CtrMono C_38 := ctrS_mono mC_79 mc_79
theorem mD_38 : DrMono D_38 := drawA_mono mC_38
noncomputable def B_38 : Code := Tryd.f38.body.getD .skip
theorem mc_38 (args : List (AV tau)) (m : Mem tau) (k k' : AV tau → Mem tau → Option Unit) (hk : ∀ av m, k av m = some () → k' av m = some ()) (h : c_38 args m k = some ()) : c_38 args m k' = some () := by
 unfold c_38 at h ⊢
 split at h
 · repeat' first | exact callX_mono (fun _ h => hk _ _ h) h | refine bO_mono (fun _ h => ?_) h
 · cases h
noncomputable def K_38_0 (k : AV tau → Mem tau → Option Unit) : Kon tau := (kBlock 0 (kS E_38 C_38 D_38 (codeP B_38 [1, 1, 1]) (kEnd E_38 Tryd.f38 k)))
def st_38_0 (x0 : (List S90)) (x1 : Int) (x2 : (List S70)) : St tau := ⟨tmL 23 0 [(0, .sl 90 x0), (3, .own 0 0), (4, .int .i64 x1)], ⟨[], [some ⟨70, x2, 0⟩]⟩⟩
noncomputable def LP_38_0 (k : AV tau → Mem tau → Option Unit) (x0 : (List S90)) (x1 : Int) (x2 : (List S70)) : Option Unit := loopA E_38 (codeA E_38 C_38 D_38 (codeP B_38 [1, 1, 0, 1, 0, 0])) (codeP B_38 [1, 1, 0, 1, 0, 0]) (K_38_0 k) (st_38_0 x0 x1 x2)
theorem w_38_0 (k : AV tau → Mem tau → Option Unit) (x0 : (List S90)) (x1 : Int) (x2 : (List S70)) : codeA E_38 C_38 D_38 (codeP B_38 [1, 1, 0, 1, 0, 0]) (kL E_38 C_38 D_38 (codeP B_38 [1, 1, 0, 1, 0, 0]) (K_38_0 k)) (st_38_0 x0 x1 x2) = (brA (decide (x1 < ((x0.length : Nat) : Int))) (brA (decide ((0 : Int) ≤ x1)) (brA (decide (x1 < ((x0.length : Nat) : Int))) (callX (fun n => laws_toBox.f ((rd_T90 x0 x1).f0) ((rd_T90 x0 x1).f1)) fun t0 => brA (decide ((0 : Int) ≤ x1)) (brA (decide (x1 < ((x2.length : Nat) : Int))) (LP_38_0 k x0 (wrap64 (x1 + (1 : Int))) (List.set x2 (Int.toNat x1) (⟨t0.1, t0.2⟩ : S70))) (none)) (none)) (none)) (none)) (k (.own 0 0) ⟨[], [some ⟨70, x2, 0⟩]⟩) : Option Unit) := by
 simp only [← wrapA_i64]
 kernel_rfl
theorem w_38 (l0 : List S90) (k : AV tau → Mem tau → Option Unit) : fnA E_38 C_38 D_38 Tryd.f38 B_38 [.sl 90 l0] ⟨[], []⟩ k = (brA (decide ((Int.toNat ((l0.length : Nat) : Int)) ≤ 17592186044416)) (LP_38_0 k l0 (0 : Int) (List.replicate (Int.toNat ((l0.length : Nat) : Int)) (⟨(0 : Int), (0 : Int)⟩ : S70))) (none) : Option Unit) := by kernel_rfl
def S_38_0 (N : Nat) : Prop := ∀ (k : AV tau → Mem tau → Option Unit) (x0 : (List S90)) (x1 : Int) (x2 : (List S70)) (r : (List (S70))), laws_toBoxS.l0 N (x0) (x2) (x1) = some r → k (.own 0 0) ⟨[], [some ⟨70, r, 0⟩]⟩ = some () → LP_38_0 k x0 x1 x2 = some ()
theorem L_38 (N : Nat) : S_38_0 N := by
 induction N using Nat.strongRecOn with | _ N0 ih =>
 skip
 intro k x0 x1 x2 r h hk
 rcases N0 with _ | N
 · cases h
 first | rw [laws_toBoxS.l0] at h | simp only [laws_toBoxS.l0] at h | (unfold laws_toBoxS.l0 at h; dsimp only at h)
 refine loop_fold mC_38 mD_38 ?_
 refine (w_38_0 k x0 x1 x2).trans ?_
 refine br_eti h rfl (fun c13 h => ?_) (fun c13 h => ?_)
 ·cases h; exact hk
 refine br_g h rfl (fun c14 h => ?_)
 refine br_t (by first | (simp [c13]; done) | (simp; omega) | (simp only [List.length_append, List.length_cons, List.length_nil, List.length_take, List.length_drop] at c13 ⊢; simp; omega) | (simp only [List.length_append, List.length_cons, List.length_nil, List.length_take, List.length_drop] at c13; simp; omega) | (simp_all; done)) ?_
 refine call_h 0 h (fun t0 e15 h => ?_)
 refine br_t (by first | (simp [c14]; done) | (simp; omega) | (simp only [List.length_append, List.length_cons, List.length_nil, List.length_take, List.length_drop] at c13 ⊢; simp; omega) | (simp only [List.length_append, List.length_cons, List.length_nil, List.length_take, List.length_drop] at c13; simp; omega) | (simp_all; done)) ?_
 refine br_g h rfl (fun c16 h => ?_)
 exact (ih N (by omega)) _ _ _ _ _ h hk
theorem okc_38 (args : List (AV tau)) (m : Mem tau) (κ : AV tau → Mem tau → Option Unit) (hh : c_38 args m κ = some ()) : ∃ av m1, κ av m1 = some () ∧ ToldA Tryd.prog TT (pnT 38) 38 args m av m1 := by
 obtain ⟨bx_, rw_⟩ := m
 unfold c_38 at hh
 simp only at hh
 split at hh
 case h_2 => cases hh
 rename_i b0
 obtain ⟨l0, hx0, hh0⟩ := bO_some hh
 have ex0 := asSl_some hx0
 subst ex0
 obtain ⟨N, t, h, hκ⟩ := callX_some hh0
 refine ⟨_, _, hκ, told_of_run pq okC_38 (fun _ _ _ => drawA_ok pq okC_38 hmix) (E := E_38) (fn := Tryd.f38) (body := B_38) (by kernel_rfl) (by kernel_rfl) (by kernel_rfl) (by rfl) (by exact Nat.le_of_ble_eq_true rfl) (fun k hk => ?_)⟩
 refine (w_38 l0 k).trans ?_
 replace h : laws_toBoxS.f N l0 = some t := h
 unfold laws_toBoxS.f at h
 refine ite_x h (fun c17 h => ?_) (fun _ h => by cases h)
 refine br_g h rfl (fun c18 h => ?_)
 exact (L_38 N) _ _ _ _ _ h hk
noncomputable def C_80 : Ctr tau Unit := ctrS 38 c_38 C_38
noncomputable def D_80 : Drw tau := drawA E_80 C_80
theorem okC_80 : CtrOk Tryd.prog TT pnT C_80 := ctrS_ok okC_38 okc_38
theorem mC_80 : CtrMono C_80 := ctrS_mono mC_38 mc_38
theorem mD_80 : DrMono D_80 := drawA_mono mC_80
noncomputable def B_80 : Code := Tryd.f80.body.getD .skip
theorem mc_80 (args : List (AV tau)) (m : Mem tau) (k k' : AV tau → Mem tau → Option Unit) (hk : ∀ av m, k av m = some () → k' av m = some ()) (h : c_80 args m k = some ()) : c_80 args m k' = some () := by
 unfold c_80 at h ⊢
 split at h
 · repeat' first | exact callX_mono (fun _ h => hk _ _ h) h | refine bO_mono (fun _ h => ?_) h
 · cases h
theorem w_80 (a0_0 : Int) (a0_1 : Int) (a1_0 : Int) (a1_1 : Int) (k : AV tau → Mem tau → Option Unit) : fnA E_80 C_80 D_80 Tryd.f80 B_80 [.agg [.int .i64 a0_0, .int .i64 a0_1], .agg [.int .i64 a1_0, .int .i64 a1_1]] ⟨[], []⟩ k = (brA (!(decide (a0_0 = a1_0))) (k (.bool false) ⟨[], []⟩) (brA (!(decide (a0_1 = a1_1))) (k (.bool false) ⟨[], []⟩) (k (.bool true) ⟨[], []⟩)) : Option Unit) := by kernel_rfl
theorem okc_80 (args : List (AV tau)) (m : Mem tau) (κ : AV tau → Mem tau → Option Unit) (hh : c_80 args m κ = some ()) : ∃ av m1, κ av m1 = some () ∧ ToldA Tryd.prog TT (pnT 80) 80 args m av m1 := by
 obtain ⟨bx_, rw_⟩ := m
 unfold c_80 at hh
 simp only at hh
 split at hh
 case h_2 => cases hh
 rename_i b0 b1 b2 b3
 obtain ⟨a0_0, hx0, hh0⟩ := bO_some hh
 obtain ⟨a0_1, hx1, hh1⟩ := bO_some hh0
 obtain ⟨a1_0, hx2, hh2⟩ := bO_some hh1
 obtain ⟨a1_1, hx3, hh3⟩ := bO_some hh2
 have ex0 := asI_some hx0
 have ex1 := asI_some hx1
 have ex2 := asI_some hx2
 have ex3 := asI_some hx3
 subst ex0 ex1 ex2 ex3
 obtain ⟨N, t, h, hκ⟩ := callX_some hh3
 refine ⟨_, _, hκ, told_of_run pq okC_80 (fun _ _ _ => drawA_ok pq okC_80 hmix) (E := E_80) (fn := Tryd.f80) (body := B_80) (by kernel_rfl) (by kernel_rfl) (by kernel_rfl) (by rfl) (by exact Nat.le_of_ble_eq_true rfl) (fun k hk => ?_)⟩
 refine (w_80 a0_0 a0_1 a1_0 a1_1 k).trans ?_
 replace h : laws_eqBox.f a0_0 a0_1 a1_0 a1_1 = some t := h
 unfold laws_eqBox.f at h
 refine br_etn h rfl (fun c3 h => ?_) (fun c3 h => ?_)
 ·cases h; exact hk
 refine br_itn h rfl (fun c4 h => ?_) (fun c4 h => ?_)
 ·cases h; exact hk
 cases h; exact hk
noncomputable def C_39 : Ctr tau Unit := ctrS 80 c_80 C_80
noncomputable def D_39 : Drw tau := drawA E_39 C_39
theorem okC_39 : CtrOk Tryd.prog TT pnT C_39 := ctrS_ok okC_80 okc_80
theorem mC_39 : CtrMono C_39 := ctrS_mono mC_80 mc_80
theorem mD_39 : DrMono D_39 := drawA_mono mC_39
noncomputable def B_39 : Code := Tryd.f39.body.getD .skip
theorem mc_39 (args : List (AV tau)) (m : Mem tau) (k k' : AV tau → Mem tau → Option Unit) (hk : ∀ av m, k av m = some () → k' av m = some ()) (h : c_39 args m k = some ()) : c_39 args m k' = some () := by
 unfold c_39 at h ⊢
 split at h
 · repeat' first | exact callX_mono (fun _ h => hk _ _ h) h | refine bO_mono (fun _ h => ?_) h
 · cases h
noncomputable def K_39_0 (k : AV tau → Mem tau → Option Unit) : Kon tau := (kBlock 0 (kS E_39 C_39 D_39 (codeP B_39 [1, 1, 1]) (kEnd E_39 Tryd.f39 k)))
def st_39_0 (x0 : (List S70)) (x1 : (List S70)) (x2 : Int) : St tau := ⟨tmL 27 0 [(0, .sl 70 x0), (1, .sl 70 x1), (5, .int .i64 x2)], ⟨[], []⟩⟩
noncomputable def LP_39_0 (k : AV tau → Mem tau → Option Unit) (x0 : (List S70)) (x1 : (List S70)) (x2 : Int) : Option Unit := loopA E_39 (codeA E_39 C_39 D_39 (codeP B_39 [1, 1, 0, 1, 0, 0])) (codeP B_39 [1, 1, 0, 1, 0, 0]) (K_39_0 k) (st_39_0 x0 x1 x2)
theorem w_39_0 (k : AV tau → Mem tau → Option Unit) (x0 : (List S70)) (x1 : (List S70)) (x2 : Int) : codeA E_39 C_39 D_39 (codeP B_39 [1, 1, 0, 1, 0, 0]) (kL E_39 C_39 D_39 (codeP B_39 [1, 1, 0, 1, 0, 0]) (K_39_0 k)) (st_39_0 x0 x1 x2) = (brA (decide (x2 < ((x0.length : Nat) : Int))) (brA (decide ((0 : Int) ≤ x2)) (brA (decide (x2 < ((x0.length : Nat) : Int))) (brA (decide ((0 : Int) ≤ x2)) (brA (decide (x2 < ((x1.length : Nat) : Int))) (callX (fun n => laws_eqBox.f ((rd_T70 x0 x2).f0) ((rd_T70 x0 x2).f1) ((rd_T70 x1 x2).f0) ((rd_T70 x1 x2).f1)) fun t0 => brA (!t0) (k (.bool false) ⟨[], []⟩) (LP_39_0 k x0 x1 (wrap64 (x2 + (1 : Int))))) (none)) (none)) (none)) (none)) (k (.bool true) ⟨[], []⟩) : Option Unit) := by
 simp only [← wrapA_i64]
 kernel_rfl
theorem w_39 (l0 : List S70) (l1 : List S70) (k : AV tau → Mem tau → Option Unit) : fnA E_39 C_39 D_39 Tryd.f39 B_39 [.sl 70 l0, .sl 70 l1] ⟨[], []⟩ k = (brA (!(decide (((l0.length : Nat) : Int) = ((l1.length : Nat) : Int)))) (k (.bool false) ⟨[], []⟩) (LP_39_0 k l0 l1 (0 : Int)) : Option Unit) := by kernel_rfl
def S_39_0 (N : Nat) : Prop := ∀ (k : AV tau → Mem tau → Option Unit) (x0 : (List S70)) (x1 : (List S70)) (x2 : Int) (r : Bool), laws_eqBoxS.l0 N (x0) (x1) (x2) = some r → k (.bool (r)) ⟨[], []⟩ = some () → LP_39_0 k x0 x1 x2 = some ()
theorem L_39 (N : Nat) : S_39_0 N := by
 induction N using Nat.strongRecOn with | _ N0 ih =>
 skip
 intro k x0 x1 x2 r h hk
 rcases N0 with _ | N
 · cases h
 first | rw [laws_eqBoxS.l0] at h | simp only [laws_eqBoxS.l0] at h | (unfold laws_eqBoxS.l0 at h; dsimp only at h)
 refine loop_fold mC_39 mD_39 ?_
 refine (w_39_0 k x0 x1 x2).trans ?_
 refine br_eti h rfl (fun c13 h => ?_) (fun c13 h => ?_)
 ·cases h; exact hk
 refine br_g h rfl (fun c14 h => ?_)
 refine br_t (by first | (simp [c13]; done) | (simp; omega) | (simp only [List.length_append, List.length_cons, List.length_nil, List.length_take, List.length_drop] at c13 ⊢; simp; omega) | (simp only [List.length_append, List.length_cons, List.length_nil, List.length_take, List.length_drop] at c13; simp; omega) | (simp_all; done)) ?_
 refine br_t (by first | (simp [c14]; done) | (simp; omega) | (simp only [List.length_append, List.length_cons, List.length_nil, List.length_take, List.length_drop] at c13 ⊢; simp; omega) | (simp only [List.length_append, List.length_cons, List.length_nil, List.length_take, List.length_drop] at c13; simp; omega) | (simp_all; done)) ?_
 refine br_g h rfl (fun c15 h => ?_)
 refine call_h 0 h (fun t0 e16 h => ?_)
 refine br_etn h (congrArg not dect) (fun c17 h => ?_) (fun c17 h => ?_)
 ·cases h; exact hk
 exact (ih N (by omega)) _ _ _ _ _ h hk
theorem okc_39 (args : List (AV tau)) (m : Mem tau) (κ : AV tau → Mem tau → Option Unit) (hh : c_39 args m κ = some ()) : ∃ av m1, κ av m1 = some () ∧ ToldA Tryd.prog TT (pnT 39) 39 args m av m1 := by
 obtain ⟨bx_, rw_⟩ := m
 unfold c_39 at hh
 simp only at hh
 split at hh
 case h_2 => cases hh
 rename_i b0 b1
 obtain ⟨l0, hx0, hh0⟩ := bO_some hh
 obtain ⟨l1, hx1, hh1⟩ := bO_some hh0
 have ex0 := asSl_some hx0
 have ex1 := asSl_some hx1
 subst ex0 ex1
 obtain ⟨N, t, h, hκ⟩ := callX_some hh1
 refine ⟨_, _, hκ, told_of_run pq okC_39 (fun _ _ _ => drawA_ok pq okC_39 hmix) (E := E_39) (fn := Tryd.f39) (body := B_39) (by kernel_rfl) (by kernel_rfl) (by kernel_rfl) (by rfl) (by exact Nat.le_of_ble_eq_true rfl) (fun k hk => ?_)⟩
 refine (w_39 l0 l1 k).trans ?_
 replace h : laws_eqBoxS.f N l0 l1 = some t := h
 unfold laws_eqBoxS.f at h
 refine br_etn h rfl (fun c18 h => ?_) (fun c18 h => ?_)
 ·cases h; exact hk
 exact (L_39 N) _ _ _ _ _ h hk
noncomputable def C_19 : Ctr tau Unit := ctrS 39 c_39 C_39
noncomputable def D_19 : Drw tau := drawA E_19 C_19
theorem okC_19 : CtrOk Tryd.prog TT pnT C_19 := ctrS_ok okC_39 okc_39
theorem mC_19 : CtrMono C_19 := ctrS_mono mC_39 mc_39
theorem mD_19 : DrMono D_19 := drawA_mono mC_19
noncomputable def B_19 : Code := Tryd.f19.body.getD .skip
theorem mc_19 (args : List (AV tau)) (m : Mem tau) (k k' : AV tau → Mem tau → Option Unit) (hk : ∀ av m, k av m = some () → k' av m = some ()) (h : c_19 args m k = some ()) : c_19 args m k' = some () := by
 unfold c_19 at h ⊢
 split at h
 · repeat' first | exact callX_mono (fun _ h => hk _ _ h) h | refine bO_mono (fun _ h => ?_) h
 · cases h
noncomputable def K_19_0 (k : AV tau → Mem tau → Option Unit) : Kon tau := (kBlock 0 (kS E_19 C_19 D_19 (codeP B_19 [1, 1, 1]) (kEnd E_19 Tryd.f19 k)))
def st_19_0 (x0 : (List S70)) (x1 : ByteArray) (x2 : Int) : St tau := ⟨tmL 32 0 [(0, .sl 70 x0), (3, .str x1), (4, .int .i64 x2)], ⟨[], []⟩⟩
noncomputable def LP_19_0 (k : AV tau → Mem tau → Option Unit) (x0 : (List S70)) (x1 : ByteArray) (x2 : Int) : Option Unit := loopA E_19 (codeA E_19 C_19 D_19 (codeP B_19 [1, 1, 0, 1, 0, 0])) (codeP B_19 [1, 1, 0, 1, 0, 0]) (K_19_0 k) (st_19_0 x0 x1 x2)
theorem w_19_0 (k : AV tau → Mem tau → Option Unit) (x0 : (List S70)) (x1 : ByteArray) (x2 : Int) : codeA E_19 C_19 D_19 (codeP B_19 [1, 1, 0, 1, 0, 0]) (kL E_19 C_19 D_19 (codeP B_19 [1, 1, 0, 1, 0, 0]) (K_19_0 k)) (st_19_0 x0 x1 x2) = (brA (decide (x2 < ((x0.length : Nat) : Int))) (brA (decide (x2 > (0 : Int))) (brA (decide ((x1.size + 1) ≤ 9223372036854775807)) (brA (decide ((0 : Int) ≤ x2)) (brA (decide (x2 < ((x0.length : Nat) : Int))) (brA (decide ((0 : Int) ≤ x2)) (brA (decide (x2 < ((x0.length : Nat) : Int))) (callX (fun n => spec_l15Dec.f n ((rd_T70 x0 x2).f1)) fun t0 => brA (decide (((x1 ++ (bs [32])).size + t0.size) ≤ 9223372036854775807)) (brA (decide ((((x1 ++ (bs [32])) ++ t0).size + 1) ≤ 9223372036854775807)) (callX (fun n => spec_l15Dec.f n ((rd_T70 x0 x2).f0)) fun t1 => brA (decide (((((x1 ++ (bs [32])) ++ t0) ++ (bs [47])).size + t1.size) ≤ 9223372036854775807)) (LP_19_0 k x0 ((((x1 ++ (bs [32])) ++ t0) ++ (bs [47])) ++ t1) (wrap64 (x2 + (1 : Int)))) (none)) (none)) (none)) (none)) (none)) (none)) (none)) (none)) (brA (decide ((0 : Int) ≤ x2)) (brA (decide (x2 < ((x0.length : Nat) : Int))) (brA (decide ((0 : Int) ≤ x2)) (brA (decide (x2 < ((x0.length : Nat) : Int))) (callX (fun n => spec_l15Dec.f n ((rd_T70 x0 x2).f1)) fun t2 => brA (decide ((x1.size + t2.size) ≤ 9223372036854775807)) (brA (decide (((x1 ++ t2).size + 1) ≤ 9223372036854775807)) (callX (fun n => spec_l15Dec.f n ((rd_T70 x0 x2).f0)) fun t3 => brA (decide ((((x1 ++ t2) ++ (bs [47])).size + t3.size) ≤ 9223372036854775807)) (LP_19_0 k x0 (((x1 ++ t2) ++ (bs [47])) ++ t3) (wrap64 (x2 + (1 : Int)))) (none)) (none)) (none)) (none)) (none)) (none)) (none))) (k (.str x1) ⟨[], []⟩) : Option Unit) := by
 simp only [← wrapA_i64]
 kernel_rfl
theorem w_19 (l0 : List S70) (k : AV tau → Mem tau → Option Unit) : fnA E_19 C_19 D_19 Tryd.f19 B_19 [.sl 70 l0] ⟨[], []⟩ k = (LP_19_0 k l0 (bs []) (0 : Int) : Option Unit) := by kernel_rfl
def S_19_0 (N : Nat) : Prop := ∀ (k : AV tau → Mem tau → Option Unit) (x0 : (List S70)) (x1 : ByteArray) (x2 : Int) (r : ByteArray), spec_BoxText.l0 N (x0) (x1) (x2) = some r → k (.str (r)) ⟨[], []⟩ = some () → LP_19_0 k x0 x1 x2 = some ()
theorem L_19 (N : Nat) : S_19_0 N := by
 induction N using Nat.strongRecOn with | _ N0 ih =>
 skip
 intro k x0 x1 x2 r h hk
 rcases N0 with _ | N
 · cases h
 first | rw [spec_BoxText.l0] at h | simp only [spec_BoxText.l0] at h | (unfold spec_BoxText.l0 at h; dsimp only at h)
 refine loop_fold mC_19 mD_19 ?_
 refine (w_19_0 k x0 x1 x2).trans ?_
 refine br_eti h rfl (fun c43 h => ?_) (fun c43 h => ?_)
 ·cases h; exact hk
 refine br_eti h rfl (fun c44 h => ?_) (fun c44 h => ?_)
 ·refine br_g h rfl (fun c45 h => ?_)
  refine br_g h rfl (fun c46 h => ?_)
  refine br_g h rfl (fun c47 h => ?_)
  refine br_g h rfl (fun c48 h => ?_)
  refine call_h N h (fun t2 e49 h => ?_)
  refine br_g h rfl (fun c50 h => ?_)
  refine br_g h rfl (fun c51 h => ?_)
  refine call_h N h (fun t3 e52 h => ?_)
  refine br_g h rfl (fun c53 h => ?_)
  exact (ih N (by omega)) _ _ _ _ _ h hk
 refine br_g h rfl (fun c54 h => ?_)
 refine br_g h rfl (fun c55 h => ?_)
 refine br_g h rfl (fun c56 h => ?_)
 refine br_g h rfl (fun c57 h => ?_)
 refine br_g h rfl (fun c58 h => ?_)
 refine call_h N h (fun t0 e59 h => ?_)
 refine br_g h rfl (fun c60 h => ?_)
 refine br_g h rfl (fun c61 h => ?_)
 refine call_h N h (fun t1 e62 h => ?_)
 refine br_g h rfl (fun c63 h => ?_)
 exact (ih N (by omega)) _ _ _ _ _ h hk
theorem okc_19 (args : List (AV tau)) (m : Mem tau) (κ : AV tau → Mem tau → Option Unit) (hh : c_19 args m κ = some ()) : ∃ av m1, κ av m1 = some () ∧ ToldA Tryd.prog TT (pnT 19) 19 args m av m1 := by
 obtain ⟨bx_, rw_⟩ := m
 unfold c_19 at hh
 simp only at hh
 split at hh
 case h_2 => cases hh
 rename_i b0
 obtain ⟨l0, hx0, hh0⟩ := bO_some hh
 have ex0 := asSl_some hx0
 subst ex0
 obtain ⟨N, t, h, hκ⟩ := callX_some hh0
 refine ⟨_, _, hκ, told_of_run pq okC_19 (fun _ _ _ => drawA_ok pq okC_19 hmix) (E := E_19) (fn := Tryd.f19) (body := B_19) (by kernel_rfl) (by kernel_rfl) (by kernel_rfl) (by rfl) (by exact Nat.le_of_ble_eq_true rfl) (fun k hk => ?_)⟩
 refine (w_19 l0 k).trans ?_
 replace h : spec_BoxText.f N l0 = some t := h
 unfold spec_BoxText.f at h
 exact (L_19 N) _ _ _ _ _ h hk
noncomputable def C_17 : Ctr tau Unit := ctrS 19 c_19 C_19
noncomputable def D_17 : Drw tau := drawA E_17 C_17
theorem okC_17 : CtrOk Tryd.prog TT pnT C_17 := ctrS_ok okC_19 okc_19
theorem mC_17 : CtrMono C_17 := ctrS_mono mC_19 mc_19
theorem mD_17 : DrMono D_17 := drawA_mono mC_17
noncomputable def B_17 : Code := Tryd.f17.body.getD .skip
theorem mc_17 (args : List (AV tau)) (m : Mem tau) (k k' : AV tau → Mem tau → Option Unit) (hk : ∀ av m, k av m = some () → k' av m = some ()) (h : c_17 args m k = some ()) : c_17 args m k' = some () := by
 unfold c_17 at h ⊢
 split at h
 · repeat' first | exact callX_mono (fun _ h => hk _ _ h) h | refine bO_mono (fun _ h => ?_) h
 · cases h
noncomputable def K_17_0 (k : AV tau → Mem tau → Option Unit) : Kon tau := (kBlock 0 (kS E_17 C_17 D_17 (codeP B_17 [1, 1, 1]) (kEnd E_17 Tryd.f17 k)))
def st_17_0 (x0 : (List S70)) (x1 : Int) (x2 : Int) (x3 : (List ByteArray)) : St tau := ⟨tmL 26 0 [(3, .own 0 0), (6, .sl 70 x0), (7, .int .i64 x1), (8, .int .i64 x2)], ⟨[], [some ⟨9, x3, 0⟩]⟩⟩
noncomputable def LP_17_0 (k : AV tau → Mem tau → Option Unit) (x0 : (List S70)) (x1 : Int) (x2 : Int) (x3 : (List ByteArray)) : Option Unit := loopA E_17 (codeA E_17 C_17 D_17 (codeP B_17 [1, 1, 0, 1, 0, 0])) (codeP B_17 [1, 1, 0, 1, 0, 0]) (K_17_0 k) (st_17_0 x0 x1 x2 x3)
theorem w_17_0 (k : AV tau → Mem tau → Option Unit) (x0 : (List S70)) (x1 : Int) (x2 : Int) (x3 : (List ByteArray)) : codeA E_17 C_17 D_17 (codeP B_17 [1, 1, 0, 1, 0, 0]) (kL E_17 C_17 D_17 (codeP B_17 [1, 1, 0, 1, 0, 0]) (K_17_0 k)) (st_17_0 x0 x1 x2 x3) = (brA (decide (x2 < x1)) (brA (decide ((0 : Int) ≤ x2)) (brA (decide (x2 < ((x0.length : Nat) : Int))) (callX (fun n => strconv_Itoa.f n ((rd_T70 x0 x2).f1)) fun t0 => brA (decide ((t0.size + 1) ≤ 9223372036854775807)) (callX (fun n => strconv_Itoa.f n ((rd_T70 x0 x2).f0)) fun t1 => brA (decide (((t0 ++ (bs [47])).size + t1.size) ≤ 9223372036854775807)) (brA (decide ((x3.length + 1) ≤ 8796093022208)) (LP_17_0 k x0 x1 (wrap64 (x2 + (1 : Int))) (x3 ++ ([((t0 ++ (bs [47])) ++ t1)] : List ByteArray))) (none)) (none)) (none)) (none)) (none)) (callX (fun n => strings_Join.f n x3 (bs [32])) fun t2 => k (.str t2) ⟨[], []⟩) : Option Unit) := by
 simp only [← wrapA_i64]
 kernel_rfl
theorem w_17 (l0 : List S70) (k : AV tau → Mem tau → Option Unit) : fnA E_17 C_17 D_17 Tryd.f17 B_17 [.sl 70 l0] ⟨[], []⟩ k = (LP_17_0 k l0 ((l0.length : Nat) : Int) (0 : Int) ([] : List ByteArray) : Option Unit) := by kernel_rfl
def S_17_0 (N : Nat) : Prop := ∀ (k : AV tau → Mem tau → Option Unit) (x0 : (List S70)) (x1 : Int) (x2 : Int) (x3 : (List ByteArray)) (r : ByteArray), impl_BoxText.l0 N (x0) (x1) (x2) (x3) = some r → k (.str (r)) ⟨[], []⟩ = some () → LP_17_0 k x0 x1 x2 x3 = some ()
theorem L_17 (N : Nat) : S_17_0 N := by
 induction N using Nat.strongRecOn with | _ N0 ih =>
 skip
 intro k x0 x1 x2 x3 r h hk
 rcases N0 with _ | N
 · cases h
 first | rw [impl_BoxText.l0] at h | simp only [impl_BoxText.l0] at h | (unfold impl_BoxText.l0 at h; dsimp only at h)
 refine loop_fold mC_17 mD_17 ?_
 refine (w_17_0 k x0 x1 x2 x3).trans ?_
 refine br_eti h rfl (fun c19 h => ?_) (fun c19 h => ?_)
 ·refine call_h N h (fun t2 e20 h => ?_)
  cases h; exact hk
 refine br_g h rfl (fun c21 h => ?_)
 refine br_g h rfl (fun c22 h => ?_)
 refine call_h N h (fun t0 e23 h => ?_)
 refine br_g h rfl (fun c24 h => ?_)
 refine call_h N h (fun t1 e25 h => ?_)
 refine br_g h rfl (fun c26 h => ?_)
 refine br_g h rfl (fun c27 h => ?_)
 exact (ih N (by omega)) _ _ _ _ _ _ h hk
theorem okc_17 (args : List (AV tau)) (m : Mem tau) (κ : AV tau → Mem tau → Option Unit) (hh : c_17 args m κ = some ()) : ∃ av m1, κ av m1 = some () ∧ ToldA Tryd.prog TT (pnT 17) 17 args m av m1 := by
 obtain ⟨bx_, rw_⟩ := m
 unfold c_17 at hh
 simp only at hh
 split at hh
 case h_2 => cases hh
 rename_i b0
 obtain ⟨l0, hx0, hh0⟩ := bO_some hh
 have ex0 := asSl_some hx0
 subst ex0
 obtain ⟨N, t, h, hκ⟩ := callX_some hh0
 refine ⟨_, _, hκ, told_of_run pq okC_17 (fun _ _ _ => drawA_ok pq okC_17 hmix) (E := E_17) (fn := Tryd.f17) (body := B_17) (by kernel_rfl) (by kernel_rfl) (by kernel_rfl) (by rfl) (by exact Nat.le_of_ble_eq_true rfl) (fun k hk => ?_)⟩
 refine (w_17 l0 k).trans ?_
 replace h : impl_BoxText.f N l0 = some t := h
 unfold impl_BoxText.f at h
 exact (L_17 N) _ _ _ _ _ _ h hk
noncomputable def C_6 : Ctr tau Unit := ctrS 17 c_17 C_17
noncomputable def D_6 : Drw tau := drawA E_6 C_6
theorem okC_6 : CtrOk Tryd.prog TT pnT C_6 := ctrS_ok okC_17 okc_17
theorem mC_6 : CtrMono C_6 := ctrS_mono mC_17 mc_17
theorem mD_6 : DrMono D_6 := drawA_mono mC_6
noncomputable def B_6 : Code := Tryd.f6.body.getD .skip
theorem mc_6 (args : List (AV tau)) (m : Mem tau) (k k' : AV tau → Mem tau → Option Unit) (hk : ∀ av m, k av m = some () → k' av m = some ()) (h : c_6 args m k = some ()) : c_6 args m k' = some () := by
 unfold c_6 at h ⊢
 split at h
 · repeat' first | exact callX_mono (fun _ h => hk _ _ h) h | refine bO_mono (fun _ h => ?_) h
 · cases h
theorem w_6 (l0 : List S90) (k : AV tau → Mem tau → Option Unit) : fnA E_6 C_6 D_6 Tryd.f6 B_6 [.sl 90 l0] ⟨[], []⟩ k = (callX (fun n => laws_szBoxS.f l0 (1048576 : Int)) fun t0 => brA (decide (t0 < (0 : Int))) (k (.bool true) ⟨[], []⟩) (callX (fun n => laws_toBoxS.f n l0) fun t1 => callX (fun n => spec_BoxText.f n t1) fun t2 => callX (fun n => laws_toBoxS.f n l0) fun t3 => callX (fun n => impl_BoxText.f n t3) fun t4 => brA (!(decide (t4 = t2))) (k (.bool false) ⟨[], []⟩) (callX (fun n => laws_toBoxS.f n l0) fun t5 => callX (fun n => laws_eqBoxS.f n t3 t5) fun t6 => brA (!t6) (k (.bool false) ⟨[], []⟩) (k (.bool true) ⟨[], []⟩))) : Option Unit) := by kernel_rfl
theorem okc_6 (args : List (AV tau)) (m : Mem tau) (κ : AV tau → Mem tau → Option Unit) (hh : c_6 args m κ = some ()) : ∃ av m1, κ av m1 = some () ∧ ToldA Tryd.prog TT (pnT 6) 6 args m av m1 := by
 obtain ⟨bx_, rw_⟩ := m
 unfold c_6 at hh
 simp only at hh
 split at hh
 case h_2 => cases hh
 rename_i b0
 obtain ⟨l0, hx0, hh0⟩ := bO_some hh
 have ex0 := asSl_some hx0
 subst ex0
 obtain ⟨N, t, h, hκ⟩ := callX_some hh0
 refine ⟨_, _, hκ, told_of_run pq okC_6 (fun _ _ _ => drawA_ok pq okC_6 hmix) (E := E_6) (fn := Tryd.f6) (body := B_6) (by kernel_rfl) (by kernel_rfl) (by kernel_rfl) (by rfl) (by exact Nat.le_of_ble_eq_true rfl) (fun k hk => ?_)⟩
 refine (w_6 l0 k).trans ?_
 replace h : laws_FnExactBoxText.f N l0 = some t := h
 unfold laws_FnExactBoxText.f at h
 refine call_h 0 h (fun t0 e11 h => ?_)
 refine br_ite h rfl (fun c12 h => ?_) (fun c12 h => ?_)
 ·cases h; exact hk
 refine call_h N h (fun t1 e13 h => ?_)
 refine call_h N h (fun t2 e14 h => ?_)
 refine call_h N h (fun t3 e15 h => ?_)
 refine call_h N h (fun t4 e16 h => ?_)
 refine br_etn h rfl (fun c17 h => ?_) (fun c17 h => ?_)
 ·cases h; exact hk
 refine call_h N h (fun t5 e18 h => ?_)
 refine call_h N h (fun t6 e19 h => ?_)
 refine br_itn h (congrArg not dect) (fun c20 h => ?_) (fun c20 h => ?_)
 ·cases h; exact hk
 cases h; exact hk
end Go.Proofs.YtlpgpckggnimhaaDoor.PFnExactBoxText