/- The machine's texts of FnExactBoxRead (links). Conditions: none. -/
import Derived.Test.YtlpgpckggnimhaaDoorPFnExactBoxReadx0
set_option linter.unusedVariables false
set_option linter.unusedSimpArgs false
set_option maxRecDepth 100000
set_option maxHeartbeats 4000000
namespace Go.Proofs.YtlpgpckggnimhaaDoor.PFnExactBoxRead
open Go.RowKit Go.Proofs.YtlpgpckggnimhaaDoorW.PrintWords Go.Proofs.YtlpgpckggnimhaaDoorW.PrintLast Go.Proofs.YtlpgpckggnimhaaDoorW.PrintMore
open Go Go.Proofs Am
noncomputable def C_59 : Ctr tau Unit := ctr0
theorem okC_59 : CtrOk Tryd.prog TT pnT C_59 := ctr0_ok
theorem mC_59 : CtrMono C_59 := ctr0_mono
theorem mc_59 (args : List (AV tau)) (m : Mem tau) (k k' : AV tau → Mem tau → Option Unit) (hk : ∀ av m, k av m = some () → k' av m = some ()) (h : c_59 args m k = some ()) : c_59 args m k' = some () := by
 unfold c_59 at h ⊢
 split at h
 · repeat' first | exact callX_mono (fun _ h => hk _ _ h) h | refine bO_mono (fun _ h => ?_) h
 · cases h
theorem okc_59 (args : List (AV tau)) (m : Mem tau) (κ : AV tau → Mem tau → Option Unit) (hh : c_59 args m κ = some ()) : ∃ av m1, κ av m1 = some () ∧ ToldA Tryd.prog TT (pnT 59) 59 args m av m1 := by
 obtain ⟨bx_, rw_⟩ := m
 unfold c_59 at hh
 simp only at hh
 split at hh
 case h_2 => cases hh
 rename_i b0 b1 r0
 obtain ⟨u0, hx0, hh0⟩ := bO_some hh
 obtain ⟨l0, hx1, hh1⟩ := bO_some hh0
 obtain ⟨a1, hx2, hh2⟩ := bO_some hh1
 have ex0 := asOwn_some hx0
 have ex1 := asRow_some hx1
 have ex2 := asS_some hx2
 subst ex0 ex1 ex2
 obtain ⟨N, t, h, hκ⟩ := callX_some hh2
 replace h : strings_Join.f N l0 a1 = some t := h
 refine ⟨_, _, hκ, ?_⟩
 unfold strings_Join.f at h
 split at h
 case isFalse => cases h
 rename_i hb
 cases h
 exact told_join (T := TT) (P := Tryd.prog) (e := 9) (xs := (l0 : List ByteArray)) (ys := l0) ⟨Tryd.f59, by kernel_rfl, by kernel_rfl, by kernel_rfl⟩ rfl rfl (fun j x y hx hy => by
   have := hx.symm.trans hy
   cases this; rfl) (fun hz w A c => by
   have hz' : l0 = [] := List.eq_nil_of_length_eq_zero hz
   subst hz'
   exact Any.strings_Join_none Tryd.lays156 Tryd.Builder_Extra_156 A c a1 w) (fun w g o c hc hg hle => Any.strings_Join Tryd.lays156 Tryd.Builder_Extra_156 g o c l0 a1 w hc hg hb.1 hle hb.2)
noncomputable def C_58 : Ctr tau Unit := ctrS 59 c_59 C_59
theorem okC_58 : CtrOk Tryd.prog TT pnT C_58 := ctrS_ok okC_59 okc_59
theorem mC_58 : CtrMono C_58 := ctrS_mono mC_59 mc_59
theorem mc_58 (args : List (AV tau)) (m : Mem tau) (k k' : AV tau → Mem tau → Option Unit) (hk : ∀ av m, k av m = some () → k' av m = some ()) (h : c_58 args m k = some ()) : c_58 args m k' = some () := by
 unfold c_58 at h ⊢
 split at h
 · repeat' first | exact callX_mono (fun _ h => hk _ _ h) h | refine bO_mono (fun _ h => ?_) h
 · cases h
theorem okc_58 (args : List (AV tau)) (m : Mem tau) (κ : AV tau → Mem tau → Option Unit) (hh : c_58 args m κ = some ()) : ∃ av m1, κ av m1 = some () ∧ ToldA Tryd.prog TT (pnT 58) 58 args m av m1 := by
 obtain ⟨bx_, rw_⟩ := m
 unfold c_58 at hh
 simp only at hh
 split at hh
 case h_2 => cases hh
 rename_i b0
 obtain ⟨a0, hx0, hh0⟩ := bO_some hh
 have ex0 := asI_some hx0
 subst ex0
 obtain ⟨N, t, h, hκ⟩ := callX_some hh0
 replace h : strconv_Itoa.f N a0 = some t := h
 refine ⟨_, _, hκ, ?_⟩
 unfold strconv_Itoa.f at h
 split at h
 case isFalse => cases h
 rename_i hb
 cases h
 exact told_num ⟨Tryd.f58, by kernel_rfl, by kernel_rfl, by kernel_rfl⟩ (fun w S hg => (Any.strconv_Itoa Tryd.laysM171 a0 hb.1 hb.2 w hg.2.2.2.2).mono fun e w' ⟨he, d, os, hw⟩ => ⟨he, hw ▸ below_grown w d os⟩)
noncomputable def C_91 : Ctr tau Unit := ctrS 58 c_58 C_58
theorem okC_91 : CtrOk Tryd.prog TT pnT C_91 := ctrS_ok okC_58 okc_58
theorem mC_91 : CtrMono C_91 := ctrS_mono mC_58 mc_58
theorem mc_91 (args : List (AV tau)) (m : Mem tau) (k k' : AV tau → Mem tau → Option Unit) (hk : ∀ av m, k av m = some () → k' av m = some ()) (h : c_91 args m k = some ()) : c_91 args m k' = some () := by
 unfold c_91 at h ⊢
 split at h
 · repeat' first | exact callX_mono (fun _ h => hk _ _ h) h | refine bO_mono (fun _ h => ?_) h
 · cases h
theorem okc_91 (args : List (AV tau)) (m : Mem tau) (κ : AV tau → Mem tau → Option Unit) (hh : c_91 args m κ = some ()) : ∃ av m1, κ av m1 = some () ∧ ToldA Tryd.prog TT (pnT 91) 91 args m av m1 := by
 obtain ⟨bx_, rw_⟩ := m
 unfold c_91 at hh
 simp only at hh
 split at hh
 case h_2 => cases hh
 rename_i b0 b1
 obtain ⟨a0, hx0, hh0⟩ := bO_some hh
 obtain ⟨a1, hx1, hh1⟩ := bO_some hh0
 have ex0 := asS_some hx0
 have ex1 := asS_some hx1
 subst ex0 ex1
 obtain ⟨N, t, h, hκ⟩ := callX_some hh1
 replace h : strings_TrimPrefix.f N a0 a1 = some t := h
 refine ⟨_, _, hκ, ?_⟩
 cases h
 exact told_two ⟨Tryd.f91, by kernel_rfl, by kernel_rfl, by kernel_rfl⟩ (fun _ _ _ => .str _) (fun w S _ => (Any.strings_TrimPrefix Tryd.lays101 a0 a1 w).mono fun e w' ⟨he, hw⟩ => ⟨he, hw ▸ .refl _ _⟩)
noncomputable def C_60 : Ctr tau Unit := ctrS 91 c_91 C_91
theorem okC_60 : CtrOk Tryd.prog TT pnT C_60 := ctrS_ok okC_91 okc_91
theorem mC_60 : CtrMono C_60 := ctrS_mono mC_91 mc_91
theorem mc_60 (args : List (AV tau)) (m : Mem tau) (k k' : AV tau → Mem tau → Option Unit) (hk : ∀ av m, k av m = some () → k' av m = some ()) (h : c_60 args m k = some ()) : c_60 args m k' = some () := by
 unfold c_60 at h ⊢
 split at h
 · repeat' first | exact callX_mono (fun _ h => hk _ _ h) h | refine bO_mono (fun _ h => ?_) h
 · cases h
theorem okc_60 (args : List (AV tau)) (m : Mem tau) (κ : AV tau → Mem tau → Option Unit) (hh : c_60 args m κ = some ()) : ∃ av m1, κ av m1 = some () ∧ ToldA Tryd.prog TT (pnT 60) 60 args m av m1 := by
 obtain ⟨bx_, rw_⟩ := m
 unfold c_60 at hh
 simp only at hh
 split at hh
 case h_2 => cases hh
 rename_i b0 b1
 obtain ⟨a0, hx0, hh0⟩ := bO_some hh
 obtain ⟨a1, hx1, hh1⟩ := bO_some hh0
 have ex0 := asS_some hx0
 have ex1 := asS_some hx1
 subst ex0 ex1
 obtain ⟨N, t, h, hκ⟩ := callX_some hh1
 replace h : strings_Cut.f N a0 a1 = some t := h
 refine ⟨_, _, hκ, ?_⟩
 unfold strings_Cut.f at h
 split at h
 case isFalse => cases h
 rename_i hb
 cases h
 obtain hu : ∀ w (η : Eta) S, VR TT S w ⟨[], []⟩ η (.tup [.str (cutL a0 a1), .str (cutR a0 a1), .bool (cutT a0 a1)]) (.tuple [.string (cutL a0 a1), .string (cutR a0 a1), .bool (cutT a0 a1)].toArray) := fun w η S => .tup _ _ rfl (fun i a c ha hc => by
   rcases i with _ | _ | _ | i
   · cases ha; cases hc; exact .str _
   · cases ha; cases hc; exact .str _
   · cases ha; cases hc; exact .bool _
   · cases ha)
 exact told_two ⟨Tryd.f60, by kernel_rfl, by kernel_rfl, by kernel_rfl⟩ hu (fun w S hg => by
   obtain ⟨⟨_, _, m, hm⟩, _⟩ := hg
   exact (Any.strings_Cut { Tryd.laysM145 with } a0 a1 m w hb hm).mono fun e w' ⟨he, d, hw⟩ => ⟨he, hw ▸ below_drawn w d⟩)
noncomputable def C_52 : Ctr tau Unit := ctrS 60 c_60 C_60
theorem okC_52 : CtrOk Tryd.prog TT pnT C_52 := ctrS_ok okC_60 okc_60
theorem mC_52 : CtrMono C_52 := ctrS_mono mC_60 mc_60
theorem mc_52 (args : List (AV tau)) (m : Mem tau) (k k' : AV tau → Mem tau → Option Unit) (hk : ∀ av m, k av m = some () → k' av m = some ()) (h : c_52 args m k = some ()) : c_52 args m k' = some () := by
 unfold c_52 at h ⊢
 split at h
 · repeat' first | exact callX_mono (fun _ h => hk _ _ h) h | refine bO_mono (fun _ h => ?_) h
 · cases h
theorem okc_52 (args : List (AV tau)) (m : Mem tau) (κ : AV tau → Mem tau → Option Unit) (hh : c_52 args m κ = some ()) : ∃ av m1, κ av m1 = some () ∧ ToldA Tryd.prog TT (pnT 52) 52 args m av m1 := by
 obtain ⟨bx_, rw_⟩ := m
 unfold c_52 at hh
 simp only at hh
 split at hh
 case h_2 => cases hh
 rename_i b0 b1
 obtain ⟨a0, hx0, hh0⟩ := bO_some hh
 obtain ⟨a1, hx1, hh1⟩ := bO_some hh0
 have ex0 := asS_some hx0
 have ex1 := asS_some hx1
 subst ex0 ex1
 obtain ⟨N, t, h, hκ⟩ := callX_some hh1
 replace h : strings_Split.f N a0 a1 = some t := h
 refine ⟨_, _, hκ, ?_⟩
 unfold strings_Split.f at h
 split at h
 case isFalse => cases h
 rename_i hb
 cases h
 have hl : (splitW a0 a1).length = Lib.countB a0 a1 + 1 := Lib.splitB_all a1 hb.2 0 _ a0 rfl
 have hle := Lib.countB_le a1 hb.2 a0.size a0 (Nat.le_refl _)
 exact told_split (T := TT) (P := Tryd.prog) (e := 9) (xs := (splitW a0 a1 : List ByteArray)) (ys := splitW a0 a1) (k := Lib.countB a0 a1 + 1) ⟨Tryd.f52, by kernel_rfl, by kernel_rfl, by kernel_rfl⟩ rfl rfl (fun j x y hx hy => by
   have := hx.symm.trans hy
   cases this; rfl) hl (by
   have := hb.1
   simp only [maxLen]; omega) (fun w S hg => by
   obtain ⟨⟨_, _, m, hm⟩, _⟩ := hg
   exact Any.strings_Split { Tryd.laysM146 with } Tryd.laysM146.i9 a0 a1 m w hb.1 hm hb.2)
noncomputable def C_64 : Ctr tau Unit := ctrS 52 c_52 C_52
noncomputable def D_64 : Drw tau := drawA E_64 C_64
theorem okC_64 : CtrOk Tryd.prog TT pnT C_64 := ctrS_ok okC_52 okc_52
theorem mC_64 : CtrMono C_64 := ctrS_mono mC_52 mc_52
theorem mD_64 : DrMono D_64 := drawA_mono mC_64
noncomputable def B_64 : Code := Tryd.f64.body.getD .skip
theorem mc_64 (args : List (AV tau)) (m : Mem tau) (k k' : AV tau → Mem tau → Option Unit) (hk : ∀ av m, k av m = some () → k' av m = some ()) (h : c_64 args m k = some ()) : c_64 args m k' = some () := by
 unfold c_64 at h ⊢
 split at h
 · repeat' first | exact callX_mono (fun _ h => hk _ _ h) h | refine bO_mono (fun _ h => ?_) h
 · cases h
theorem w_64 (a0 : Int) (a1 : Int) (a2 : Int) (k : AV tau → Mem tau → Option Unit) : fnA E_64 C_64 D_64 Tryd.f64 B_64 [.int .i64 a0, .int .i64 a1, .int .i64 a2] ⟨[], []⟩ k = (brA (decide (a0 ≥ a1)) (k (.bool (decide (a0 ≤ a2))) ⟨[], []⟩) (k (.bool false) ⟨[], []⟩) : Option Unit) := by kernel_rfl
theorem okc_64 (args : List (AV tau)) (m : Mem tau) (κ : AV tau → Mem tau → Option Unit) (hh : c_64 args m κ = some ()) : ∃ av m1, κ av m1 = some () ∧ ToldA Tryd.prog TT (pnT 64) 64 args m av m1 := by
 obtain ⟨bx_, rw_⟩ := m
 unfold c_64 at hh
 simp only at hh
 split at hh
 case h_2 => cases hh
 rename_i b0 b1 b2
 obtain ⟨a0, hx0, hh0⟩ := bO_some hh
 obtain ⟨a1, hx1, hh1⟩ := bO_some hh0
 obtain ⟨a2, hx2, hh2⟩ := bO_some hh1
 have ex0 := asI_some hx0
 have ex1 := asI_some hx1
 have ex2 := asI_some hx2
 subst ex0 ex1 ex2
 obtain ⟨N, t, h, hκ⟩ := callX_some hh2
 refine ⟨_, _, hκ, told_of_run pq okC_64 (fun _ _ _ => drawA_ok pq okC_64 hmix) (E := E_64) (fn := Tryd.f64) (body := B_64) (by kernel_rfl) (by kernel_rfl) (by kernel_rfl) (by rfl) (by exact Nat.le_of_ble_eq_true rfl) (fun k hk => ?_)⟩
 refine (w_64 a0 a1 a2 k).trans ?_
 replace h : impl_in.f a0 a1 a2 = some t := h
 unfold impl_in.f at h
 refine br_eti h rfl (fun c2 h => ?_) (fun c2 h => ?_)
 ·cases h; exact hk
 cases h; exact hk
noncomputable def C_20 : Ctr tau Unit := ctrS 64 c_64 C_64
noncomputable def D_20 : Drw tau := drawA E_20 C_20
theorem okC_20 : CtrOk Tryd.prog TT pnT C_20 := ctrS_ok okC_64 okc_64
theorem mC_20 : CtrMono C_20 := ctrS_mono mC_64 mc_64
theorem mD_20 : DrMono D_20 := drawA_mono mC_20
noncomputable def B_20 : Code := Tryd.f20.body.getD .skip
theorem mc_20 (args : List (AV tau)) (m : Mem tau) (k k' : AV tau → Mem tau → Option Unit) (hk : ∀ av m, k av m = some () → k' av m = some ()) (h : c_20 args m k = some ()) : c_20 args m k' = some () := by
 unfold c_20 at h ⊢
 split at h
 · repeat' first | exact callX_mono (fun _ h => hk _ _ h) h | refine bO_mono (fun _ h => ?_) h
 · cases h
noncomputable def K_20_0 (k : AV tau → Mem tau → Option Unit) : Kon tau := (kBlock 0 (kS E_20 C_20 D_20 (codeP B_20 [1, 1]) (kEnd E_20 Tryd.f20 k)))
def st_20_0 (x0 : (List S70)) (x1 : (List S70)) (x2 : Int) (x3 : Int) : St tau := ⟨tmL 25 0 [(0, .sl 70 x0), (5, .sl 70 x1), (6, .int .i64 x2), (7, .int .i64 x3)], ⟨[], []⟩⟩
noncomputable def LP_20_0 (k : AV tau → Mem tau → Option Unit) (x0 : (List S70)) (x1 : (List S70)) (x2 : Int) (x3 : Int) : Option Unit := loopA E_20 (codeA E_20 C_20 D_20 (codeP B_20 [1, 0, 1, 0, 0])) (codeP B_20 [1, 0, 1, 0, 0]) (K_20_0 k) (st_20_0 x0 x1 x2 x3)
theorem w_20_0 (k : AV tau → Mem tau → Option Unit) (x0 : (List S70)) (x1 : (List S70)) (x2 : Int) (x3 : Int) : codeA E_20 C_20 D_20 (codeP B_20 [1, 0, 1, 0, 0]) (kL E_20 C_20 D_20 (codeP B_20 [1, 0, 1, 0, 0]) (K_20_0 k)) (st_20_0 x0 x1 x2 x3) = (brA (decide (x3 < x2)) (brA (decide ((0 : Int) ≤ x3)) (brA (decide (x3 < ((x1.length : Nat) : Int))) (callX (fun n => impl_in.f ((rd_T70 x1 x3).f0) (0 : Int) (1000000 : Int)) fun t0 => brA (!t0) (k (.bool false) ⟨[], []⟩) (callX (fun n => impl_in.f ((rd_T70 x1 x3).f1) (-(1000000 : Int)) (1000000 : Int)) fun t1 => brA (!t1) (k (.bool false) ⟨[], []⟩) (LP_20_0 k x0 x1 x2 (wrap64 (x3 + (1 : Int)))))) (none)) (none)) (k (.bool (decide (((x0.length : Nat) : Int) = (4 : Int)))) ⟨[], []⟩) : Option Unit) := by
 simp only [← wrapA_i64]
 kernel_rfl
theorem w_20 (l0 : List S70) (k : AV tau → Mem tau → Option Unit) : fnA E_20 C_20 D_20 Tryd.f20 B_20 [.sl 70 l0] ⟨[], []⟩ k = (LP_20_0 k l0 l0 ((l0.length : Nat) : Int) (0 : Int) : Option Unit) := by kernel_rfl
def S_20_0 (N : Nat) : Prop := ∀ (k : AV tau → Mem tau → Option Unit) (x0 : (List S70)) (x1 : (List S70)) (x2 : Int) (x3 : Int) (r : Bool), impl_BoxOk.l0 N (x0) (x1) (x2) (x3) = some r → k (.bool (r)) ⟨[], []⟩ = some () → LP_20_0 k x0 x1 x2 x3 = some ()
theorem L_20 (N : Nat) : S_20_0 N := by
 induction N using Nat.strongRecOn with | _ N0 ih =>
 skip
 intro k x0 x1 x2 x3 r h hk
 rcases N0 with _ | N
 · cases h
 first | rw [impl_BoxOk.l0] at h | simp only [impl_BoxOk.l0] at h | (unfold impl_BoxOk.l0 at h; dsimp only at h)
 refine loop_fold mC_20 mD_20 ?_
 refine (w_20_0 k x0 x1 x2 x3).trans ?_
 refine br_eti h rfl (fun c15 h => ?_) (fun c15 h => ?_)
 ·cases h; exact hk
 refine br_g h rfl (fun c16 h => ?_)
 refine br_g h rfl (fun c17 h => ?_)
 refine call_h 0 h (fun t0 e18 h => ?_)
 refine br_etn h (congrArg not dect) (fun c19 h => ?_) (fun c19 h => ?_)
 ·cases h; exact hk
 refine call_h 0 h (fun t1 e20 h => ?_)
 refine br_etn h (congrArg not dect) (fun c21 h => ?_) (fun c21 h => ?_)
 ·cases h; exact hk
 exact (ih N (by omega)) _ _ _ _ _ _ h hk
theorem okc_20 (args : List (AV tau)) (m : Mem tau) (κ : AV tau → Mem tau → Option Unit) (hh : c_20 args m κ = some ()) : ∃ av m1, κ av m1 = some () ∧ ToldA Tryd.prog TT (pnT 20) 20 args m av m1 := by
 obtain ⟨bx_, rw_⟩ := m
 unfold c_20 at hh
 simp only at hh
 split at hh
 case h_2 => cases hh
 rename_i b0
 obtain ⟨l0, hx0, hh0⟩ := bO_some hh
 have ex0 := asSl_some hx0
 subst ex0
 obtain ⟨N, t, h, hκ⟩ := callX_some hh0
 refine ⟨_, _, hκ, told_of_run pq okC_20 (fun _ _ _ => drawA_ok pq okC_20 hmix) (E := E_20) (fn := Tryd.f20) (body := B_20) (by kernel_rfl) (by kernel_rfl) (by kernel_rfl) (by rfl) (by exact Nat.le_of_ble_eq_true rfl) (fun k hk => ?_)⟩
 refine (w_20 l0 k).trans ?_
 replace h : impl_BoxOk.f N l0 = some t := h
 unfold impl_BoxOk.f at h
 exact (L_20 N) _ _ _ _ _ _ h hk
noncomputable def C_62 : Ctr tau Unit := ctrS 20 c_20 C_20
noncomputable def D_62 : Drw tau := drawA E_62 C_62
theorem okC_62 : CtrOk Tryd.prog TT pnT C_62 := ctrS_ok okC_20 okc_20
theorem mC_62 : CtrMono C_62 := ctrS_mono mC_20 mc_20
theorem mD_62 : DrMono D_62 := drawA_mono mC_62
noncomputable def B_62 : Code := Tryd.f62.body.getD .skip
theorem mc_62 (args : List (AV tau)) (m : Mem tau) (k k' : AV tau → Mem tau → Option Unit) (hk : ∀ av m, k av m = some () → k' av m = some ()) (h : c_62 args m k = some ()) : c_62 args m k' = some () := by
 unfold c_62 at h ⊢
 split at h
 · repeat' first | exact callX_mono (fun _ h => hk _ _ h) h | refine bO_mono (fun _ h => ?_) h
 · cases h
theorem w_62 (l0 : List S70) (k : AV tau → Mem tau → Option Unit) : fnA E_62 C_62 D_62 Tryd.f62 B_62 [.sl 70 l0] ⟨[], []⟩ k = (brA (decide (((l0.length : Nat) : Int) = (0 : Int))) (k (.own 0 0) ⟨[], [some ⟨70, ([] : List S70), 0⟩]⟩) (brA (decide ((Int.toNat ((l0.length : Nat) : Int)) ≤ 17592186044416)) (k (.own 0 0) ⟨[], [some ⟨70, ((List.take ((List.replicate (Int.toNat ((l0.length : Nat) : Int)) (⟨(0 : Int), (0 : Int)⟩ : S70)).length) l0) ++ (List.drop l0.length (List.replicate (Int.toNat ((l0.length : Nat) : Int)) (⟨(0 : Int), (0 : Int)⟩ : S70)))), 0⟩]⟩) (none)) : Option Unit) := by kernel_rfl
theorem okc_62 (args : List (AV tau)) (m : Mem tau) (κ : AV tau → Mem tau → Option Unit) (hh : c_62 args m κ = some ()) : ∃ av m1, κ av m1 = some () ∧ ToldA Tryd.prog TT (pnT 62) 62 args m av m1 := by
 obtain ⟨bx_, rw_⟩ := m
 unfold c_62 at hh
 simp only at hh
 split at hh
 case h_2 => cases hh
 rename_i b0
 obtain ⟨l0, hx0, hh0⟩ := bO_some hh
 have ex0 := asSl_some hx0
 subst ex0
 obtain ⟨N, t, h, hκ⟩ := callX_some hh0
 refine ⟨_, _, hκ, told_of_run pq okC_62 (fun _ _ _ => drawA_ok pq okC_62 hmix) (E := E_62) (fn := Tryd.f62) (body := B_62) (by kernel_rfl) (by kernel_rfl) (by kernel_rfl) (by rfl) (by exact Nat.le_of_ble_eq_true rfl) (fun k hk => ?_)⟩
 refine (w_62 l0 k).trans ?_
 replace h : impl_copied_impl_Box.f l0 = some t := h
 unfold impl_copied_impl_Box.f at h
 refine ite_x h (fun c1 h => ?_) (fun _ h => by cases h)
 cases h
 exact copied_of (α := S70) l0 _ _ (k := fun q : List S70 => k (.own 0 0) ⟨[], [some ⟨70, q, 0⟩]⟩) c1 hk
noncomputable def C_65 : Ctr tau Unit := ctrS 62 c_62 C_62
noncomputable def D_65 : Drw tau := drawA E_65 C_65
theorem okC_65 : CtrOk Tryd.prog TT pnT C_65 := ctrS_ok okC_62 okc_62
theorem mC_65 : CtrMono C_65 := ctrS_mono mC_62 mc_62
theorem mD_65 : DrMono D_65 := drawA_mono mC_65
noncomputable def B_65 : Code := Tryd.f65.body.getD .skip
theorem mc_65 (args : List (AV tau)) (m : Mem tau) (k k' : AV tau → Mem tau → Option Unit) (hk : ∀ av m, k av m = some () → k' av m = some ()) (h : c_65 args m k = some ()) : c_65 args m k' = some () := by
 unfold c_65 at h ⊢
 split at h
 · repeat' first | exact callX_mono (fun _ h => hk _ _ h) h | refine bO_mono (fun _ h => ?_) h
 · cases h
theorem w_65 (a0 : Int) (k : AV tau → Mem tau → Option Unit) : fnA E_65 C_65 D_65 Tryd.f65 B_65 [.int .i64 a0] ⟨[], []⟩ k = (brA (decide (a0 ≥ (-(1000000 : Int)))) (k (.bool (decide (a0 ≤ (1000000 : Int)))) ⟨[], []⟩) (k (.bool false) ⟨[], []⟩) : Option Unit) := by kernel_rfl
theorem okc_65 (args : List (AV tau)) (m : Mem tau) (κ : AV tau → Mem tau → Option Unit) (hh : c_65 args m κ = some ()) : ∃ av m1, κ av m1 = some () ∧ ToldA Tryd.prog TT (pnT 65) 65 args m av m1 := by
 obtain ⟨bx_, rw_⟩ := m
 unfold c_65 at hh
 simp only at hh
 split at hh
 case h_2 => cases hh
 rename_i b0
 obtain ⟨a0, hx0, hh0⟩ := bO_some hh
 have ex0 := asI_some hx0
 subst ex0
 obtain ⟨N, t, h, hκ⟩ := callX_some hh0
 refine ⟨_, _, hκ, told_of_run pq okC_65 (fun _ _ _ => drawA_ok pq okC_65 hmix) (E := E_65) (fn := Tryd.f65) (body := B_65) (by kernel_rfl) (by kernel_rfl) (by kernel_rfl) (by rfl) (by exact Nat.le_of_ble_eq_true rfl) (fun k hk => ?_)⟩
 refine (w_65 a0 k).trans ?_
 replace h : spec_l1Num.f a0 = some t := h
 unfold spec_l1Num.f at h
 refine br_eti h rfl (fun c2 h => ?_) (fun c2 h => ?_)
 ·cases h; exact hk
 cases h; exact hk
noncomputable def C_21 : Ctr tau Unit := ctrS 65 c_65 C_65
noncomputable def D_21 : Drw tau := drawA E_21 C_21
theorem okC_21 : CtrOk Tryd.prog TT pnT C_21 := ctrS_ok okC_65 okc_65
theorem mC_21 : CtrMono C_21 := ctrS_mono mC_65 mc_65
theorem mD_21 : DrMono D_21 := drawA_mono mC_21
noncomputable def B_21 : Code := Tryd.f21.body.getD .skip
theorem mc_21 (args : List (AV tau)) (m : Mem tau) (k k' : AV tau → Mem tau → Option Unit) (hk : ∀ av m, k av m = some () → k' av m = some ()) (h : c_21 args m k = some ()) : c_21 args m k' = some () := by
 unfold c_21 at h ⊢
 split at h
 · repeat' first | exact callX_mono (fun _ h => hk _ _ h) h | refine bO_mono (fun _ h => ?_) h
 · cases h
noncomputable def K_21_0 (k : AV tau → Mem tau → Option Unit) : Kon tau := (kBlock 0 (kS E_21 C_21 D_21 (codeP B_21 [1, 1, 1]) (kEnd E_21 Tryd.f21 k)))
def st_21_0 (x0 : (List S70)) (x1 : Int) : St tau := ⟨tmL 36 0 [(0, .sl 70 x0), (3, .int .i64 x1)], ⟨[], []⟩⟩
noncomputable def LP_21_0 (k : AV tau → Mem tau → Option Unit) (x0 : (List S70)) (x1 : Int) : Option Unit := loopA E_21 (codeA E_21 C_21 D_21 (codeP B_21 [1, 1, 0, 1, 0, 0])) (codeP B_21 [1, 1, 0, 1, 0, 0]) (K_21_0 k) (st_21_0 x0 x1)
theorem w_21_0 (k : AV tau → Mem tau → Option Unit) (x0 : (List S70)) (x1 : Int) : codeA E_21 C_21 D_21 (codeP B_21 [1, 1, 0, 1, 0, 0]) (kL E_21 C_21 D_21 (codeP B_21 [1, 1, 0, 1, 0, 0]) (K_21_0 k)) (st_21_0 x0 x1) = (brA (decide (x1 < ((x0.length : Nat) : Int))) (brA (decide ((0 : Int) ≤ x1)) (brA (decide (x1 < ((x0.length : Nat) : Int))) (brA (decide ((rd_T70 x0 x1).f0 < (0 : Int))) (k (.bool false) ⟨[], []⟩) (brA (decide ((0 : Int) ≤ x1)) (brA (decide (x1 < ((x0.length : Nat) : Int))) (brA (decide ((rd_T70 x0 x1).f0 > (1000000 : Int))) (k (.bool false) ⟨[], []⟩) (brA (decide ((0 : Int) ≤ x1)) (brA (decide (x1 < ((x0.length : Nat) : Int))) (callX (fun n => spec_l1Num.f ((rd_T70 x0 x1).f1)) fun t0 => brA (!t0) (k (.bool false) ⟨[], []⟩) (LP_21_0 k x0 (wrap64 (x1 + (1 : Int))))) (none)) (none))) (none)) (none))) (none)) (none)) (k (.bool true) ⟨[], []⟩) : Option Unit) := by
 simp only [← wrapA_i64]
 kernel_rfl
theorem w_21 (l0 : List S70) (k : AV tau → Mem tau → Option Unit) : fnA E_21 C_21 D_21 Tryd.f21 B_21 [.sl 70 l0] ⟨[], []⟩ k = (brA (!(decide (((l0.length : Nat) : Int) = (4 : Int)))) (k (.bool false) ⟨[], []⟩) (LP_21_0 k l0 (0 : Int)) : Option Unit) := by kernel_rfl
def S_21_0 (N : Nat) : Prop := ∀ (k : AV tau → Mem tau → Option Unit) (x0 : (List S70)) (x1 : Int) (r : Bool), spec_BoxOk.l0 N (x0) (x1) = some r → k (.bool (r)) ⟨[], []⟩ = some () → LP_21_0 k x0 x1 = some ()
theorem L_21 (N : Nat) : S_21_0 N := by
 induction N using Nat.strongRecOn with | _ N0 ih =>
 skip
 intro k x0 x1 r h hk
 rcases N0 with _ | N
 · cases h
 first | rw [spec_BoxOk.l0] at h | simp only [spec_BoxOk.l0] at h | (unfold spec_BoxOk.l0 at h; dsimp only at h)
 refine loop_fold mC_21 mD_21 ?_
 refine (w_21_0 k x0 x1).trans ?_
 refine br_eti h rfl (fun c15 h => ?_) (fun c15 h => ?_)
 ·cases h; exact hk
 refine br_g h rfl (fun c16 h => ?_)
 refine br_t (by first | (simp [c15]; done) | (simp; omega) | (simp only [List.length_append, List.length_cons, List.length_nil, List.length_take, List.length_drop] at c15 ⊢; simp; omega) | (simp only [List.length_append, List.length_cons, List.length_nil, List.length_take, List.length_drop] at c15; simp; omega) | (simp_all; done)) ?_
 refine br_ite h rfl (fun c17 h => ?_) (fun c17 h => ?_)
 ·cases h; exact hk
 refine br_t (by first | (simp [c16]; done) | (simp; omega) | (simp only [List.length_append, List.length_cons, List.length_nil, List.length_take, List.length_drop] at c15 ⊢; simp; omega) | (simp only [List.length_append, List.length_cons, List.length_nil, List.length_take, List.length_drop] at c15; simp; omega) | (simp_all; done)) ?_
 refine br_t (by first | (simp [c15]; done) | (simp; omega) | (simp only [List.length_append, List.length_cons, List.length_nil, List.length_take, List.length_drop] at c15 ⊢; simp; omega) | (simp only [List.length_append, List.length_cons, List.length_nil, List.length_take, List.length_drop] at c15; simp; omega) | (simp_all; done)) ?_
 refine br_ite h rfl (fun c18 h => ?_) (fun c18 h => ?_)
 ·cases h; exact hk
 refine br_t (by first | (simp [c16]; done) | (simp; omega) | (simp only [List.length_append, List.length_cons, List.length_nil, List.length_take, List.length_drop] at c15 ⊢; simp; omega) | (simp only [List.length_append, List.length_cons, List.length_nil, List.length_take, List.length_drop] at c15; simp; omega) | (simp_all; done)) ?_
 refine br_t (by first | (simp [c15]; done) | (simp; omega) | (simp only [List.length_append, List.length_cons, List.length_nil, List.length_take, List.length_drop] at c15 ⊢; simp; omega) | (simp only [List.length_append, List.length_cons, List.length_nil, List.length_take, List.length_drop] at c15; simp; omega) | (simp_all; done)) ?_
 refine call_h 0 h (fun t0 e19 h => ?_)
 refine br_etn h (congrArg not dect) (fun c20 h => ?_) (fun c20 h => ?_)
 ·cases h; exact hk
 exact (ih N (by omega)) _ _ _ _ h hk
theorem okc_21 (args : List (AV tau)) (m : Mem tau) (κ : AV tau → Mem tau → Option Unit) (hh : c_21 args m κ = some ()) : ∃ av m1, κ av m1 = some () ∧ ToldA Tryd.prog TT (pnT 21) 21 args m av m1 := by
 obtain ⟨bx_, rw_⟩ := m
 unfold c_21 at hh
 simp only at hh
 split at hh
 case h_2 => cases hh
 rename_i b0
 obtain ⟨l0, hx0, hh0⟩ := bO_some hh
 have ex0 := asSl_some hx0
 subst ex0
 obtain ⟨N, t, h, hκ⟩ := callX_some hh0
 refine ⟨_, _, hκ, told_of_run pq okC_21 (fun _ _ _ => drawA_ok pq okC_21 hmix) (E := E_21) (fn := Tryd.f21) (body := B_21) (by kernel_rfl) (by kernel_rfl) (by kernel_rfl) (by rfl) (by exact Nat.le_of_ble_eq_true rfl) (fun k hk => ?_)⟩
 refine (w_21 l0 k).trans ?_
 replace h : spec_BoxOk.f N l0 = some t := h
 unfold spec_BoxOk.f at h
 refine br_itn h rfl (fun c21 h => ?_) (fun c21 h => ?_)
 ·exact (L_21 N) _ _ _ _ h hk
 cases h; exact hk
noncomputable def C_80 : Ctr tau Unit := ctrS 21 c_21 C_21
noncomputable def D_80 : Drw tau := drawA E_80 C_80
theorem okC_80 : CtrOk Tryd.prog TT pnT C_80 := ctrS_ok okC_21 okc_21
theorem mC_80 : CtrMono C_80 := ctrS_mono mC_21 mc_21
theorem mD_80 : DrMono D_80 := drawA_mono mC_80
noncomputable def B_80 : Code := Tryd.f80.body.getD .skip
theorem mc_80 (args : List (AV tau)) (m : Mem tau) (k k' : AV tau → Mem tau → Option Unit) (hk : ∀ av m, k av m = some () → k' av m = some ()) (h : c_80 args m k = some ()) : c_80 args m k' = some () := by
 unfold c_80 at h ⊢
 split at h
 · repeat' first | exact callX_mono (fun _ h => hk _ _ h) h | refine bO_mono (fun _ h => ?_) h
 · cases h
theorem w_80 (a0_0 : Int) (a0_1 : Int) (a1_0 : Int) (a1_1 : Int) (k : AV tau → Mem tau → Option Unit) : fnA E_80 C_80 D_80 Tryd.f80 B_80 [.agg [.int .i64 a0_0, .int .i64 a0_1], .agg [.int .i64 a1_0, .int .i64 a1_1]] ⟨[], []⟩ k = (brA (!(decide (a0_0 = a1_0))) (k (.bool false) ⟨[], []⟩) (brA (!(decide (a0_1 = a1_1))) (k (.bool false) ⟨[], []⟩) (k (.bool true) ⟨[], []⟩)) : Option Unit) := by kernel_rfl
theorem okc_80 (args : List (AV tau)) (m : Mem tau) (κ : AV tau → Mem tau → Option Unit) (hh : c_80 args m κ = some ()) : ∃ av m1, κ av m1 = some () ∧ ToldA Tryd.prog TT (pnT 80) 80 args m av m1 := by
 obtain ⟨bx_, rw_⟩ := m
 unfold c_80 at hh
 simp only at hh
 split at hh
 case h_2 => cases hh
 rename_i b0 b1 b2 b3
 obtain ⟨a0_0, hx0, hh0⟩ := bO_some hh
 obtain ⟨a0_1, hx1, hh1⟩ := bO_some hh0
 obtain ⟨a1_0, hx2, hh2⟩ := bO_some hh1
 obtain ⟨a1_1, hx3, hh3⟩ := bO_some hh2
 have ex0 := asI_some hx0
 have ex1 := asI_some hx1
 have ex2 := asI_some hx2
 have ex3 := asI_some hx3
 subst ex0 ex1 ex2 ex3
 obtain ⟨N, t, h, hκ⟩ := callX_some hh3
 refine ⟨_, _, hκ, told_of_run pq okC_80 (fun _ _ _ => drawA_ok pq okC_80 hmix) (E := E_80) (fn := Tryd.f80) (body := B_80) (by kernel_rfl) (by kernel_rfl) (by kernel_rfl) (by rfl) (by exact Nat.le_of_ble_eq_true rfl) (fun k hk => ?_)⟩
 refine (w_80 a0_0 a0_1 a1_0 a1_1 k).trans ?_
 replace h : laws_eqBox.f a0_0 a0_1 a1_0 a1_1 = some t := h
 unfold laws_eqBox.f at h
 refine br_etn h rfl (fun c3 h => ?_) (fun c3 h => ?_)
 ·cases h; exact hk
 refine br_itn h rfl (fun c4 h => ?_) (fun c4 h => ?_)
 ·cases h; exact hk
 cases h; exact hk
noncomputable def C_39 : Ctr tau Unit := ctrS 80 c_80 C_80
noncomputable def D_39 : Drw tau := drawA E_39 C_39
theorem okC_39 : CtrOk Tryd.prog TT pnT C_39 := ctrS_ok okC_80 okc_80
theorem mC_39 : CtrMono C_39 := ctrS_mono mC_80 mc_80
theorem mD_39 : DrMono D_39 := drawA_mono mC_39
noncomputable def B_39 : Code := Tryd.f39.body.getD .skip
theorem mc_39 (args : List (AV tau)) (m : Mem tau) (k k' : AV tau → Mem tau → Option Unit) (hk : ∀ av m, k av m = some () → k' av m = some ()) (h : c_39 args m k = some ()) : c_39 args m k' = some () := by
 unfold c_39 at h ⊢
 split at h
 · repeat' first | exact callX_mono (fun _ h => hk _ _ h) h | refine bO_mono (fun _ h => ?_) h
 · cases h
noncomputable def K_39_0 (k : AV tau → Mem tau → Option Unit) : Kon tau := (kBlock 0 (kS E_39 C_39 D_39 (codeP B_39 [1, 1, 1]) (kEnd E_39 Tryd.f39 k)))
def st_39_0 (x0 : (List S70)) (x1 : (List S70)) (x2 : Int) : St tau := ⟨tmL 27 0 [(0, .sl 70 x0), (1, .sl 70 x1), (5, .int .i64 x2)], ⟨[], []⟩⟩
noncomputable def LP_39_0 (k : AV tau → Mem tau → Option Unit) (x0 : (List S70)) (x1 : (List S70)) (x2 : Int) : Option Unit := loopA E_39 (codeA E_39 C_39 D_39 (codeP B_39 [1, 1, 0, 1, 0, 0])) (codeP B_39 [1, 1, 0, 1, 0, 0]) (K_39_0 k) (st_39_0 x0 x1 x2)
theorem w_39_0 (k : AV tau → Mem tau → Option Unit) (x0 : (List S70)) (x1 : (List S70)) (x2 : Int) : codeA E_39 C_39 D_39 (codeP B_39 [1, 1, 0, 1, 0, 0]) (kL E_39 C_39 D_39 (codeP B_39 [1, 1, 0, 1, 0, 0]) (K_39_0 k)) (st_39_0 x0 x1 x2) = (brA (decide (x2 < ((x0.length : Nat) : Int))) (brA (decide ((0 : Int) ≤ x2)) (brA (decide (x2 < ((x0.length : Nat) : Int))) (brA (decide ((0 : Int) ≤ x2)) (brA (decide (x2 < ((x1.length : Nat) : Int))) (callX (fun n => laws_eqBox.f ((rd_T70 x0 x2).f0) ((rd_T70 x0 x2).f1) ((rd_T70 x1 x2).f0) ((rd_T70 x1 x2).f1)) fun t0 => brA (!t0) (k (.bool false) ⟨[], []⟩) (LP_39_0 k x0 x1 (wrap64 (x2 + (1 : Int))))) (none)) (none)) (none)) (none)) (k (.bool true) ⟨[], []⟩) : Option Unit) := by
 simp only [← wrapA_i64]
 kernel_rfl
theorem w_39 (l0 : List S70) (l1 : List S70) (k : AV tau → Mem tau → Option Unit) : fnA E_39 C_39 D_39 Tryd.f39 B_39 [.sl 70 l0, .sl 70 l1] ⟨[], []⟩ k = (brA (!(decide (((l0.length : Nat) : Int) = ((l1.length : Nat) : Int)))) (k (.bool false) ⟨[], []⟩) (LP_39_0 k l0 l1 (0 : Int)) : Option Unit) := by kernel_rfl
def S_39_0 (N : Nat) : Prop := ∀ (k : AV tau → Mem tau → Option Unit) (x0 : (List S70)) (x1 : (List S70)) (x2 : Int) (r : Bool), laws_eqBoxS.l0 N (x0) (x1) (x2) = some r → k (.bool (r)) ⟨[], []⟩ = some () → LP_39_0 k x0 x1 x2 = some ()
theorem L_39 (N : Nat) : S_39_0 N := by
 induction N using Nat.strongRecOn with | _ N0 ih =>
 skip
 intro k x0 x1 x2 r h hk
 rcases N0 with _ | N
 · cases h
 first | rw [laws_eqBoxS.l0] at h | simp only [laws_eqBoxS.l0] at h | (unfold laws_eqBoxS.l0 at h; dsimp only at h)
 refine loop_fold mC_39 mD_39 ?_
 refine (w_39_0 k x0 x1 x2).trans ?_
 refine br_eti h rfl (fun c13 h => ?_) (fun c13 h => ?_)
 ·cases h; exact hk
 refine br_g h rfl (fun c14 h => ?_)
 refine br_t (by first | (simp [c13]; done) | (simp; omega) | (simp only [List.length_append, List.length_cons, List.length_nil, List.length_take, List.length_drop] at c13 ⊢; simp; omega) | (simp only [List.length_append, List.length_cons, List.length_nil, List.length_take, List.length_drop] at c13; simp; omega) | (simp_all; done)) ?_
 refine br_t (by first | (simp [c14]; done) | (simp; omega) | (simp only [List.length_append, List.length_cons, List.length_nil, List.length_take, List.length_drop] at c13 ⊢; simp; omega) | (simp only [List.length_append, List.length_cons, List.length_nil, List.length_take, List.length_drop] at c13; simp; omega) | (simp_all; done)) ?_
 refine br_g h rfl (fun c15 h => ?_)
 refine call_h 0 h (fun t0 e16 h => ?_)
 refine br_etn h (congrArg not dect) (fun c17 h => ?_) (fun c17 h => ?_)
 ·cases h; exact hk
 exact (ih N (by omega)) _ _ _ _ _ h hk
theorem okc_39 (args : List (AV tau)) (m : Mem tau) (κ : AV tau → Mem tau → Option Unit) (hh : c_39 args m κ = some ()) : ∃ av m1, κ av m1 = some () ∧ ToldA Tryd.prog TT (pnT 39) 39 args m av m1 := by
 obtain ⟨bx_, rw_⟩ := m
 unfold c_39 at hh
 simp only at hh
 split at hh
 case h_2 => cases hh
 rename_i b0 b1
 obtain ⟨l0, hx0, hh0⟩ := bO_some hh
 obtain ⟨l1, hx1, hh1⟩ := bO_some hh0
 have ex0 := asSl_some hx0
 have ex1 := asSl_some hx1
 subst ex0 ex1
 obtain ⟨N, t, h, hκ⟩ := callX_some hh1
 refine ⟨_, _, hκ, told_of_run pq okC_39 (fun _ _ _ => drawA_ok pq okC_39 hmix) (E := E_39) (fn := Tryd.f39) (body := B_39) (by kernel_rfl) (by kernel_rfl) (by kernel_rfl) (by rfl) (by exact Nat.le_of_ble_eq_true rfl) (fun k hk => ?_)⟩
 refine (w_39 l0 l1 k).trans ?_
 replace h : laws_eqBoxS.f N l0 l1 = some t := h
 unfold laws_eqBoxS.f at h
 refine br_etn h rfl (fun c18 h => ?_) (fun c18 h => ?_)
 ·cases h; exact hk
 exact (L_39 N) _ _ _ _ _ h hk
noncomputable def C_48 : Ctr tau Unit := ctrS 39 c_39 C_39
noncomputable def D_48 : Drw tau := drawA E_48 C_48
theorem okC_48 : CtrOk Tryd.prog TT pnT C_48 := ctrS_ok okC_39 okc_39
theorem mC_48 : CtrMono C_48 := ctrS_mono mC_39 mc_39
theorem mD_48 : DrMono D_48 := drawA_mono mC_48
noncomputable def B_48 : Code := Tryd.f48.body.getD .skip
theorem mc_48 (args : List (AV tau)) (m : Mem tau) (k k' : AV tau → Mem tau → Option Unit) (hk : ∀ av m, k av m = some () → k' av m = some ()) (h : c_48 args m k = some ()) : c_48 args m k' = some () := by
 unfold c_48 at h ⊢
 split at h
 · repeat' first | exact callX_mono (fun _ h => hk _ _ h) h | refine bO_mono (fun _ h => ?_) h
 · cases h
noncomputable def K_48_0 (k : AV tau → Mem tau → Option Unit) : Kon tau := (kBlock 0 (kS E_48 C_48 D_48 (codeP B_48 [1, 1]) (kEnd E_48 Tryd.f48 k)))
def st_48_0 (x0 : Int) (x1 : Int) (x2 : (List S70)) : St tau := ⟨tmL 27 0 [(0, .own 0 0), (1, .int .i64 x0), (5, .int .i64 x1)], ⟨[], [some ⟨70, x2, 0⟩]⟩⟩
noncomputable def LP_48_0 (k : AV tau → Mem tau → Option Unit) (x0 : Int) (x1 : Int) (x2 : (List S70)) : Option Unit := loopA E_48 (codeA E_48 C_48 D_48 (codeP B_48 [1, 0, 1, 0, 0])) (codeP B_48 [1, 0, 1, 0, 0]) (K_48_0 k) (st_48_0 x0 x1 x2)
theorem w_48_0 (k : AV tau → Mem tau → Option Unit) (x0 : Int) (x1 : Int) (x2 : (List S70)) : codeA E_48 C_48 D_48 (codeP B_48 [1, 0, 1, 0, 0]) (kL E_48 C_48 D_48 (codeP B_48 [1, 0, 1, 0, 0]) (K_48_0 k)) (st_48_0 x0 x1 x2) = (brA (decide (x1 < ((x2.length : Nat) : Int))) (brA (decide ((0 : Int) ≤ x1)) (brA (decide (x1 < ((x2.length : Nat) : Int))) (brA (decide ((0 : Int) ≤ x1)) (brA (decide (x1 < (((List.set x2 (Int.toNat x1) (⟨x0, (rd_T70 x2 x1).f1⟩ : S70)).length : Nat) : Int))) (LP_48_0 k (wrap64 ((wrap64 (x0 + (1 : Int))) + (1 : Int))) (wrap64 (x1 + (1 : Int))) (List.set (List.set x2 (Int.toNat x1) (⟨x0, (rd_T70 x2 x1).f1⟩ : S70)) (Int.toNat x1) (⟨(rd_T70 (List.set x2 (Int.toNat x1) (⟨x0, (rd_T70 x2 x1).f1⟩ : S70)) x1).f0, (wrap64 (x0 + (1 : Int)))⟩ : S70))) (none)) (none)) (none)) (none)) (k (.int .i64 x0) ⟨[], [some ⟨70, x2, 0⟩]⟩) : Option Unit) := by
 simp only [← wrapA_i64]
 kernel_rfl
theorem w_48 (l0 : List S70) (a1 : Int) (k : AV tau → Mem tau → Option Unit) : fnA E_48 C_48 D_48 Tryd.f48 B_48 [.own 0 0, .int .i64 a1] ⟨[], [some ⟨70, l0, 0⟩]⟩ k = (LP_48_0 k a1 (0 : Int) l0 : Option Unit) := by kernel_rfl
def S_48_0 (N : Nat) : Prop := ∀ (k : AV tau → Mem tau → Option Unit) (x0 : Int) (x1 : Int) (x2 : (List S70)) (r : Int × (List (S70))), laws_markBoxS.l0 N (x2) (x0) (x1) = some r → k (.int .i64 (r.1)) ⟨[], [some ⟨70, r.2, 0⟩]⟩ = some () → LP_48_0 k x0 x1 x2 = some ()
theorem L_48 (N : Nat) : S_48_0 N := by
 induction N using Nat.strongRecOn with | _ N0 ih =>
 skip
 intro k x0 x1 x2 r h hk
 rcases N0 with _ | N
 · cases h
 first | rw [laws_markBoxS.l0] at h | simp only [laws_markBoxS.l0] at h | (unfold laws_markBoxS.l0 at h; dsimp only at h)
 refine loop_fold mC_48 mD_48 ?_
 refine (w_48_0 k x0 x1 x2).trans ?_
 refine br_eti h rfl (fun c5 h => ?_) (fun c5 h => ?_)
 ·cases h; exact hk
 refine br_g h rfl (fun c6 h => ?_)
 replace h := let_h h
 refine br_t (by first | (simp [c5]; done) | (simp; omega) | (simp only [List.length_append, List.length_cons, List.length_nil, List.length_take, List.length_drop] at c5 ⊢; simp; omega) | (simp only [List.length_append, List.length_cons, List.length_nil, List.length_take, List.length_drop] at c5; simp; omega) | (simp_all; done)) ?_
 refine br_t (by first | (simp [c6]; done) | (simp; omega) | (simp only [List.length_append, List.length_cons, List.length_nil, List.length_take, List.length_drop] at c5 ⊢; simp; omega) | (simp only [List.length_append, List.length_cons, List.length_nil, List.length_take, List.length_drop] at c5; simp; omega) | (simp_all; done)) ?_
 refine br_t (by first | (simp; omega) | (simp only [List.length_append, List.length_cons, List.length_nil, List.length_take, List.length_drop] at c5 ⊢; simp; omega) | (simp only [List.length_append, List.length_cons, List.length_nil, List.length_take, List.length_drop] at c5; simp; omega)) ?_
 exact (ih N (by omega)) _ _ _ _ _ h hk
theorem okc_48 (args : List (AV tau)) (m : Mem tau) (κ : AV tau → Mem tau → Option Unit) (hh : c_48 args m κ = some ()) : ∃ av m1, κ av m1 = some () ∧ ToldA Tryd.prog TT (pnT 48) 48 args m av m1 := by
 obtain ⟨bx_, rw_⟩ := m
 unfold c_48 at hh
 simp only at hh
 split at hh
 case h_2 => cases hh
 rename_i b0 b1 r0
 obtain ⟨u7, hx0, hh0⟩ := bO_some hh
 obtain ⟨l0, hx1, hh1⟩ := bO_some hh0
 obtain ⟨a1, hx2, hh2⟩ := bO_some hh1
 have ex0 := asOwn_some hx0
 have ex1 := asRow_some hx1
 have ex2 := asI_some hx2
 subst ex0 ex1 ex2
 obtain ⟨N, t, h, hκ⟩ := callX_some hh2
 refine ⟨_, _, hκ, told_of_run pq okC_48 (fun _ _ _ => drawA_ok pq okC_48 hmix) (E := E_48) (fn := Tryd.f48) (body := B_48) (by kernel_rfl) (by kernel_rfl) (by kernel_rfl) (by rfl) (by exact Nat.le_of_ble_eq_true rfl) (fun k hk => ?_)⟩
 refine (w_48 l0 a1 k).trans ?_
 replace h : laws_markBoxS.f N l0 a1 = some t := h
 unfold laws_markBoxS.f at h
 exact (L_48 N) _ _ _ _ _ h hk
noncomputable def C_49 : Ctr tau Unit := ctrS 48 c_48 C_48
noncomputable def D_49 : Drw tau := drawA E_49 C_49
theorem okC_49 : CtrOk Tryd.prog TT pnT C_49 := ctrS_ok okC_48 okc_48
theorem mC_49 : CtrMono C_49 := ctrS_mono mC_48 mc_48
theorem mD_49 : DrMono D_49 := drawA_mono mC_49
noncomputable def B_49 : Code := Tryd.f49.body.getD .skip
theorem mc_49 (args : List (AV tau)) (m : Mem tau) (k k' : AV tau → Mem tau → Option Unit) (hk : ∀ av m, k av m = some () → k' av m = some ()) (h : c_49 args m k = some ()) : c_49 args m k' = some () := by
 unfold c_49 at h ⊢
 split at h
 · repeat' first | exact callX_mono (fun _ h => hk _ _ h) h | refine bO_mono (fun _ h => ?_) h
 · cases h
noncomputable def K_49_0 (k : AV tau → Mem tau → Option Unit) : Kon tau := (kBlock 0 (kS E_49 C_49 D_49 (codeP B_49 [1, 1]) (kEnd E_49 Tryd.f49 k)))
def st_49_0 (x0 : (List S70)) (x1 : Int) (x2 : Int) : St tau := ⟨tmL 31 0 [(0, .sl 70 x0), (1, .int .i64 x1), (5, .int .i64 x2)], ⟨[], []⟩⟩
noncomputable def LP_49_0 (k : AV tau → Mem tau → Option Unit) (x0 : (List S70)) (x1 : Int) (x2 : Int) : Option Unit := loopA E_49 (codeA E_49 C_49 D_49 (codeP B_49 [1, 0, 1, 0, 0])) (codeP B_49 [1, 0, 1, 0, 0]) (K_49_0 k) (st_49_0 x0 x1 x2)
theorem w_49_0 (k : AV tau → Mem tau → Option Unit) (x0 : (List S70)) (x1 : Int) (x2 : Int) : codeA E_49 C_49 D_49 (codeP B_49 [1, 0, 1, 0, 0]) (kL E_49 C_49 D_49 (codeP B_49 [1, 0, 1, 0, 0]) (K_49_0 k)) (st_49_0 x0 x1 x2) = (brA (decide (x2 < ((x0.length : Nat) : Int))) (brA (decide ((0 : Int) ≤ x2)) (brA (decide (x2 < ((x0.length : Nat) : Int))) (brA (!(decide ((rd_T70 x0 x2).f0 = x1))) (k (.int .i64 (-(1 : Int))) ⟨[], []⟩) (brA (decide ((0 : Int) ≤ x2)) (brA (decide (x2 < ((x0.length : Nat) : Int))) (brA (!(decide ((rd_T70 x0 x2).f1 = (wrap64 (x1 + (1 : Int)))))) (k (.int .i64 (-(1 : Int))) ⟨[], []⟩) (LP_49_0 k x0 (wrap64 ((wrap64 (x1 + (1 : Int))) + (1 : Int))) (wrap64 (x2 + (1 : Int))))) (none)) (none))) (none)) (none)) (k (.int .i64 x1) ⟨[], []⟩) : Option Unit) := by
 simp only [← wrapA_i64]
 kernel_rfl
theorem w_49 (l0 : List S70) (a1 : Int) (k : AV tau → Mem tau → Option Unit) : fnA E_49 C_49 D_49 Tryd.f49 B_49 [.sl 70 l0, .int .i64 a1] ⟨[], []⟩ k = (LP_49_0 k l0 a1 (0 : Int) : Option Unit) := by kernel_rfl
def S_49_0 (N : Nat) : Prop := ∀ (k : AV tau → Mem tau → Option Unit) (x0 : (List S70)) (x1 : Int) (x2 : Int) (r : Int), laws_heldBoxS.l0 N (x0) (x1) (x2) = some r → k (.int .i64 (r)) ⟨[], []⟩ = some () → LP_49_0 k x0 x1 x2 = some ()
theorem L_49 (N : Nat) : S_49_0 N := by
 induction N using Nat.strongRecOn with | _ N0 ih =>
 skip
 intro k x0 x1 x2 r h hk
 rcases N0 with _ | N
 · cases h
 first | rw [laws_heldBoxS.l0] at h | simp only [laws_heldBoxS.l0] at h | (unfold laws_heldBoxS.l0 at h; dsimp only at h)
 refine loop_fold mC_49 mD_49 ?_
 refine (w_49_0 k x0 x1 x2).trans ?_
 refine br_eti h rfl (fun c9 h => ?_) (fun c9 h => ?_)
 ·cases h; exact hk
 refine br_g h rfl (fun c10 h => ?_)
 refine br_t (by first | (simp [c9]; done) | (simp; omega) | (simp only [List.length_append, List.length_cons, List.length_nil, List.length_take, List.length_drop] at c9 ⊢; simp; omega) | (simp only [List.length_append, List.length_cons, List.length_nil, List.length_take, List.length_drop] at c9; simp; omega) | (simp_all; done)) ?_
 refine br_etn h rfl (fun c11 h => ?_) (fun c11 h => ?_)
 ·cases h; exact hk
 refine br_t (by first | (simp [c10]; done) | (simp; omega) | (simp only [List.length_append, List.length_cons, List.length_nil, List.length_take, List.length_drop] at c9 ⊢; simp; omega) | (simp only [List.length_append, List.length_cons, List.length_nil, List.length_take, List.length_drop] at c9; simp; omega) | (simp_all; done)) ?_
 refine br_t (by first | (simp [c9]; done) | (simp; omega) | (simp only [List.length_append, List.length_cons, List.length_nil, List.length_take, List.length_drop] at c9 ⊢; simp; omega) | (simp only [List.length_append, List.length_cons, List.length_nil, List.length_take, List.length_drop] at c9; simp; omega) | (simp_all; done)) ?_
 refine br_etn h rfl (fun c12 h => ?_) (fun c12 h => ?_)
 ·cases h; exact hk
 exact (ih N (by omega)) _ _ _ _ _ h hk
theorem okc_49 (args : List (AV tau)) (m : Mem tau) (κ : AV tau → Mem tau → Option Unit) (hh : c_49 args m κ = some ()) : ∃ av m1, κ av m1 = some () ∧ ToldA Tryd.prog TT (pnT 49) 49 args m av m1 := by
 obtain ⟨bx_, rw_⟩ := m
 unfold c_49 at hh
 simp only at hh
 split at hh
 case h_2 => cases hh
 rename_i b0 b1
 obtain ⟨l0, hx0, hh0⟩ := bO_some hh
 obtain ⟨a1, hx1, hh1⟩ := bO_some hh0
 have ex0 := asSl_some hx0
 have ex1 := asI_some hx1
 subst ex0 ex1
 obtain ⟨N, t, h, hκ⟩ := callX_some hh1
 refine ⟨_, _, hκ, told_of_run pq okC_49 (fun _ _ _ => drawA_ok pq okC_49 hmix) (E := E_49) (fn := Tryd.f49) (body := B_49) (by kernel_rfl) (by kernel_rfl) (by kernel_rfl) (by rfl) (by exact Nat.le_of_ble_eq_true rfl) (fun k hk => ?_)⟩
 refine (w_49 l0 a1 k).trans ?_
 replace h : laws_heldBoxS.f N l0 a1 = some t := h
 unfold laws_heldBoxS.f at h
 exact (L_49 N) _ _ _ _ _ h hk
noncomputable def C_50 : Ctr tau Unit := ctrS 49 c_49 C_49
noncomputable def D_50 : Drw tau := drawA E_50 C_50
theorem okC_50 : CtrOk Tryd.prog TT pnT C_50 := ctrS_ok okC_49 okc_49
theorem mC_50 : CtrMono C_50 := ctrS_mono mC_49 mc_49
theorem mD_50 : DrMono D_50 := drawA_mono mC_50
noncomputable def B_50 : Code := Tryd.f50.body.getD .skip
theorem mc_50 (args : List (AV tau)) (m : Mem tau) (k k' : AV tau → Mem tau → Option Unit) (hk : ∀ av m, k av m = some () → k' av m = some ()) (h : c_50 args m k = some ()) : c_50 args m k' = some () := by
 unfold c_50 at h ⊢
 split at h
 · repeat' first | exact callX_mono (fun _ h => hk _ _ h) h | refine bO_mono (fun _ h => ?_) h
 · cases h
noncomputable def K_50_0 (k : AV tau → Mem tau → Option Unit) : Kon tau := (kBlock 0 (kS E_50 C_50 D_50 (codeP B_50 [1, 1, 1, 1]) (kEnd E_50 Tryd.f50 k)))
def st_50_0 (x0 : ByteArray) (x1 : Int) (x2 : Int) (x3 : Int) (x4 : (List ByteArray)) : St tau := ⟨tmL 36 0 [(0, .str x0), (1, .int .u8 x1), (5, .own 0 0), (6, .int .i64 x2), (7, .int .i64 x3)], ⟨[], [some ⟨9, x4, 0⟩]⟩⟩
noncomputable def LP_50_0 (k : AV tau → Mem tau → Option Unit) (x0 : ByteArray) (x1 : Int) (x2 : Int) (x3 : Int) (x4 : (List ByteArray)) : Option Unit := loopA E_50 (codeA E_50 C_50 D_50 (codeP B_50 [1, 1, 1, 0, 1, 0, 0])) (codeP B_50 [1, 1, 1, 0, 1, 0, 0]) (K_50_0 k) (st_50_0 x0 x1 x2 x3 x4)
theorem w_50_0 (k : AV tau → Mem tau → Option Unit) (x0 : ByteArray) (x1 : Int) (x2 : Int) (x3 : Int) (x4 : (List ByteArray)) : codeA E_50 C_50 D_50 (codeP B_50 [1, 1, 1, 0, 1, 0, 0]) (kL E_50 C_50 D_50 (codeP B_50 [1, 1, 1, 0, 1, 0, 0]) (K_50_0 k)) (st_50_0 x0 x1 x2 x3 x4) = (brA (decide (x3 ≤ ((x0.size : Nat) : Int))) (brA (decide (x3 = ((x0.size : Nat) : Int))) (brA (decide ((0 : Int) ≤ x3)) (brA (decide (x3 ≤ ((x0.size : Nat) : Int))) (brA (decide ((0 : Int) ≤ x2)) (brA (decide (x2 ≤ x3)) (brA (decide ((x4.length + 1) ≤ 8796093022208)) (LP_50_0 k x0 x1 (wrap64 (x3 + (1 : Int))) (wrap64 (x3 + (1 : Int))) (x4 ++ ([(ByteArray.extract x0 (Int.toNat x2) (Int.toNat x3))] : List ByteArray))) (none)) (none)) (none)) (none)) (none)) (brA (decide ((0 : Int) ≤ x3)) (brA (decide (x3 < ((x0.size : Nat) : Int))) (brA (decide ((btA x0 x3) = x1)) (brA (decide ((0 : Int) ≤ x3)) (brA (decide (x3 ≤ ((x0.size : Nat) : Int))) (brA (decide ((0 : Int) ≤ x2)) (brA (decide (x2 ≤ x3)) (brA (decide ((x4.length + 1) ≤ 8796093022208)) (LP_50_0 k x0 x1 (wrap64 (x3 + (1 : Int))) (wrap64 (x3 + (1 : Int))) (x4 ++ ([(ByteArray.extract x0 (Int.toNat x2) (Int.toNat x3))] : List ByteArray))) (none)) (none)) (none)) (none)) (none)) (LP_50_0 k x0 x1 x2 (wrap64 (x3 + (1 : Int))) x4)) (none)) (none))) (k (.own 0 0) ⟨[], [some ⟨9, x4, 0⟩]⟩) : Option Unit) := by
 simp only [← wrapA_i64]
 kernel_rfl
theorem w_50 (a0 : ByteArray) (a1 : Int) (k : AV tau → Mem tau → Option Unit) : fnA E_50 C_50 D_50 Tryd.f50 B_50 [.str a0, .int .u8 a1] ⟨[], []⟩ k = (LP_50_0 k a0 a1 (0 : Int) (0 : Int) ([] : List ByteArray) : Option Unit) := by kernel_rfl
def S_50_0 (N : Nat) : Prop := ∀ (k : AV tau → Mem tau → Option Unit) (x0 : ByteArray) (x1 : Int) (x2 : Int) (x3 : Int) (x4 : (List ByteArray)) (r : (List ByteArray)), spec_l15Cut.l0 N (x0) (x1) (x2) (x3) (x4) = some r → k (.own 0 0) ⟨[], [some ⟨9, r, 0⟩]⟩ = some () → LP_50_0 k x0 x1 x2 x3 x4 = some ()
theorem L_50 (N : Nat) : S_50_0 N := by
 induction N using Nat.strongRecOn with | _ N0 ih =>
 skip
 intro k x0 x1 x2 x3 x4 r h hk
 rcases N0 with _ | N
 · cases h
 first | rw [spec_l15Cut.l0] at h | simp only [spec_l15Cut.l0] at h | (unfold spec_l15Cut.l0 at h; dsimp only at h)
 refine loop_fold mC_50 mD_50 ?_
 refine (w_50_0 k x0 x1 x2 x3 x4).trans ?_
 refine br_eti h rfl (fun c31 h => ?_) (fun c31 h => ?_)
 ·cases h; exact hk
 refine br_ite h rfl (fun c32 h => ?_) (fun c32 h => ?_)
 ·refine br_g h rfl (fun c33 h => ?_)
  refine br_g h rfl (fun c34 h => ?_)
  refine br_g h rfl (fun c35 h => ?_)
  refine br_g h rfl (fun c36 h => ?_)
  refine br_g h rfl (fun c37 h => ?_)
  exact (ih N (by omega)) _ _ _ _ _ _ _ h hk
 refine br_g h rfl (fun c38 h => ?_)
 refine br_g h rfl (fun c39 h => ?_)
 refine br_eti h rfl (fun c40 h => ?_) (fun c40 h => ?_)
 ·exact (ih N (by omega)) _ _ _ _ _ _ _ h hk
 refine br_g h rfl (fun c41 h => ?_)
 refine br_g h rfl (fun c42 h => ?_)
 refine br_g h rfl (fun c43 h => ?_)
 refine br_g h rfl (fun c44 h => ?_)
 refine br_g h rfl (fun c45 h => ?_)
 exact (ih N (by omega)) _ _ _ _ _ _ _ h hk
theorem okc_50 (args : List (AV tau)) (m : Mem tau) (κ : AV tau → Mem tau → Option Unit) (hh : c_50 args m κ = some ()) : ∃ av m1, κ av m1 = some () ∧ ToldA Tryd.prog TT (pnT 50) 50 args m av m1 := by
 obtain ⟨bx_, rw_⟩ := m
 unfold c_50 at hh
 simp only at hh
 split at hh
 case h_2 => cases hh
 rename_i b0 b1
 obtain ⟨a0, hx0, hh0⟩ := bO_some hh
 obtain ⟨a1, hx1, hh1⟩ := bO_some hh0
 have ex0 := asS_some hx0
 have ex1 := asI_some hx1
 subst ex0 ex1
 obtain ⟨N, t, h, hκ⟩ := callX_some hh1
 refine ⟨_, _, hκ, told_of_run pq okC_50 (fun _ _ _ => drawA_ok pq okC_50 hmix) (E := E_50) (fn := Tryd.f50) (body := B_50) (by kernel_rfl) (by kernel_rfl) (by kernel_rfl) (by rfl) (by exact Nat.le_of_ble_eq_true rfl) (fun k hk => ?_)⟩
 refine (w_50 a0 a1 k).trans ?_
 replace h : spec_l15Cut.f N a0 a1 = some t := h
 unfold spec_l15Cut.f at h
 exact (L_50 N) _ _ _ _ _ _ _ h hk
noncomputable def C_69 : Ctr tau Unit := ctrS 50 c_50 C_50
noncomputable def D_69 : Drw tau := drawA E_69 C_69
theorem okC_69 : CtrOk Tryd.prog TT pnT C_69 := ctrS_ok okC_50 okc_50
theorem mC_69 : CtrMono C_69 := ctrS_mono mC_50 mc_50
theorem mD_69 : DrMono D_69 := drawA_mono mC_69
noncomputable def B_69 : Code := Tryd.f69.body.getD .skip
theorem mc_69 (args : List (AV tau)) (m : Mem tau) (k k' : AV tau → Mem tau → Option Unit) (hk : ∀ av m, k av m = some () → k' av m = some ()) (h : c_69 args m k = some ()) : c_69 args m k' = some () := by
 unfold c_69 at h ⊢
 split at h
 · repeat' first | exact callX_mono (fun _ h => hk _ _ h) h | refine bO_mono (fun _ h => ?_) h
 · cases h
noncomputable def K_69_0 (k : AV tau → Mem tau → Option Unit) : Kon tau := (kBlock 0 (kS E_69 C_69 D_69 (codeP B_69 [1, 1]) (kEnd E_69 Tryd.f69 k)))
def st_69_0 (x0 : ByteArray) (x1 : Int) (x2 : Int) : St tau := ⟨tmL 18 0 [(0, .str x0), (1, .int .u8 x1), (5, .int .i64 x2)], ⟨[], []⟩⟩
noncomputable def LP_69_0 (k : AV tau → Mem tau → Option Unit) (x0 : ByteArray) (x1 : Int) (x2 : Int) : Option Unit := loopA E_69 (codeA E_69 C_69 D_69 (codeP B_69 [1, 0, 1, 0, 0])) (codeP B_69 [1, 0, 1, 0, 0]) (K_69_0 k) (st_69_0 x0 x1 x2)
theorem w_69_0 (k : AV tau → Mem tau → Option Unit) (x0 : ByteArray) (x1 : Int) (x2 : Int) : codeA E_69 C_69 D_69 (codeP B_69 [1, 0, 1, 0, 0]) (kL E_69 C_69 D_69 (codeP B_69 [1, 0, 1, 0, 0]) (K_69_0 k)) (st_69_0 x0 x1 x2) = (brA (decide (x2 < ((x0.size : Nat) : Int))) (brA (decide ((0 : Int) ≤ x2)) (brA (decide (x2 < ((x0.size : Nat) : Int))) (brA (decide ((btA x0 x2) = x1)) (k (.int .i64 x2) ⟨[], []⟩) (LP_69_0 k x0 x1 (wrap64 (x2 + (1 : Int))))) (none)) (none)) (k (.int .i64 (-(1 : Int))) ⟨[], []⟩) : Option Unit) := by
 simp only [← wrapA_i64]
 kernel_rfl
theorem w_69 (a0 : ByteArray) (a1 : Int) (k : AV tau → Mem tau → Option Unit) : fnA E_69 C_69 D_69 Tryd.f69 B_69 [.str a0, .int .u8 a1] ⟨[], []⟩ k = (LP_69_0 k a0 a1 (0 : Int) : Option Unit) := by kernel_rfl
def S_69_0 (N : Nat) : Prop := ∀ (k : AV tau → Mem tau → Option Unit) (x0 : ByteArray) (x1 : Int) (x2 : Int) (r : Int), spec_l15Find.l0 N (x0) (x1) (x2) = some r → k (.int .i64 (r)) ⟨[], []⟩ = some () → LP_69_0 k x0 x1 x2 = some ()
theorem L_69 (N : Nat) : S_69_0 N := by
 induction N using Nat.strongRecOn with | _ N0 ih =>
 skip
 intro k x0 x1 x2 r h hk
 rcases N0 with _ | N
 · cases h
 first | rw [spec_l15Find.l0] at h | simp only [spec_l15Find.l0] at h | (unfold spec_l15Find.l0 at h; dsimp only at h)
 refine loop_fold mC_69 mD_69 ?_
 refine (w_69_0 k x0 x1 x2).trans ?_
 refine br_eti h rfl (fun c9 h => ?_) (fun c9 h => ?_)
 ·cases h; exact hk
 refine br_g h rfl (fun c10 h => ?_)
 refine br_g h rfl (fun c11 h => ?_)
 refine br_ite h rfl (fun c12 h => ?_) (fun c12 h => ?_)
 ·cases h; exact hk
 exact (ih N (by omega)) _ _ _ _ _ h hk
theorem okc_69 (args : List (AV tau)) (m : Mem tau) (κ : AV tau → Mem tau → Option Unit) (hh : c_69 args m κ = some ()) : ∃ av m1, κ av m1 = some () ∧ ToldA Tryd.prog TT (pnT 69) 69 args m av m1 := by
 obtain ⟨bx_, rw_⟩ := m
 unfold c_69 at hh
 simp only at hh
 split at hh
 case h_2 => cases hh
 rename_i b0 b1
 obtain ⟨a0, hx0, hh0⟩ := bO_some hh
 obtain ⟨a1, hx1, hh1⟩ := bO_some hh0
 have ex0 := asS_some hx0
 have ex1 := asI_some hx1
 subst ex0 ex1
 obtain ⟨N, t, h, hκ⟩ := callX_some hh1
 refine ⟨_, _, hκ, told_of_run pq okC_69 (fun _ _ _ => drawA_ok pq okC_69 hmix) (E := E_69) (fn := Tryd.f69) (body := B_69) (by kernel_rfl) (by kernel_rfl) (by kernel_rfl) (by rfl) (by exact Nat.le_of_ble_eq_true rfl) (fun k hk => ?_)⟩
 refine (w_69 a0 a1 k).trans ?_
 replace h : spec_l15Find.f N a0 a1 = some t := h
 unfold spec_l15Find.f at h
 exact (L_69 N) _ _ _ _ _ h hk
noncomputable def C_70 : Ctr tau Unit := ctrS 69 c_69 C_69
noncomputable def D_70 : Drw tau := drawA E_70 C_70
theorem okC_70 : CtrOk Tryd.prog TT pnT C_70 := ctrS_ok okC_69 okc_69
theorem mC_70 : CtrMono C_70 := ctrS_mono mC_69 mc_69
theorem mD_70 : DrMono D_70 := drawA_mono mC_70
noncomputable def B_70 : Code := Tryd.f70.body.getD .skip
theorem mc_70 (args : List (AV tau)) (m : Mem tau) (k k' : AV tau → Mem tau → Option Unit) (hk : ∀ av m, k av m = some () → k' av m = some ()) (h : c_70 args m k = some ()) : c_70 args m k' = some () := by
 unfold c_70 at h ⊢
 split at h
 · repeat' first | exact callX_mono (fun _ h => hk _ _ h) h | refine bO_mono (fun _ h => ?_) h
 · cases h
noncomputable def K_70_0 (k : AV tau → Mem tau → Option Unit) : Kon tau := (kBlock 0 (kS E_70 C_70 D_70 (codeP B_70 [1, 1, 1, 1, 1, 1]) (kEnd E_70 Tryd.f70 k)))
def st_70_0 (x0 : ByteArray) (x1 : Bool) (x2 : Int) (x3 : Int) : St tau := ⟨tmL 67 0 [(0, .str x0), (4, .bool x1), (5, .int .i64 x2), (6, .int .i64 x3)], ⟨[], []⟩⟩
noncomputable def LP_70_0 (k : AV tau → Mem tau → Option Unit) (x0 : ByteArray) (x1 : Bool) (x2 : Int) (x3 : Int) : Option Unit := loopA E_70 (codeA E_70 C_70 D_70 (codeP B_70 [1, 1, 1, 1, 1, 0, 1, 0, 0])) (codeP B_70 [1, 1, 1, 1, 1, 0, 1, 0, 0]) (K_70_0 k) (st_70_0 x0 x1 x2 x3)
theorem w_70_0 (k : AV tau → Mem tau → Option Unit) (x0 : ByteArray) (x1 : Bool) (x2 : Int) (x3 : Int) : codeA E_70 C_70 D_70 (codeP B_70 [1, 1, 1, 1, 1, 0, 1, 0, 0]) (kL E_70 C_70 D_70 (codeP B_70 [1, 1, 1, 1, 1, 0, 1, 0, 0]) (K_70_0 k)) (st_70_0 x0 x1 x2 x3) = (brA (decide (x3 < ((x0.size : Nat) : Int))) (brA (decide ((0 : Int) ≤ x3)) (brA (decide (x3 < ((x0.size : Nat) : Int))) (brA (decide ((btA x0 x3) < (48 : Int))) (k (.tup [.int .i64 (0 : Int), .bool false]) ⟨[], []⟩) (brA (decide ((0 : Int) ≤ x3)) (brA (decide (x3 < ((x0.size : Nat) : Int))) (brA (decide ((btA x0 x3) > (57 : Int))) (k (.tup [.int .i64 (0 : Int), .bool false]) ⟨[], []⟩) (brA (decide ((0 : Int) ≤ x3)) (brA (decide (x3 < ((x0.size : Nat) : Int))) (LP_70_0 k x0 x1 (wrap64 ((wrap64 (x2 * (10 : Int))) + (wrap64 (IntKind.wrap .u8 ((btA x0 x3) - (48 : Int)))))) (wrap64 (x3 + (1 : Int)))) (none)) (none))) (none)) (none))) (none)) (none)) (brA x1 (k (.tup [.int .i64 (wrap64 ((0 : Int) - x2)), .bool true]) ⟨[], []⟩) (k (.tup [.int .i64 x2, .bool true]) ⟨[], []⟩)) : Option Unit) := by
 simp only [← wrapA_i64]
 kernel_rfl
theorem w_70 (a0 : ByteArray) (k : AV tau → Mem tau → Option Unit) : fnA E_70 C_70 D_70 Tryd.f70 B_70 [.str a0] ⟨[], []⟩ k = (brA (decide (((a0.size : Nat) : Int) > (0 : Int))) (brA (decide ((0 : Int) < ((a0.size : Nat) : Int))) (brA (decide ((btA a0 (0 : Int)) = (45 : Int))) (brA (decide ((1 : Int) ≤ ((a0.size : Nat) : Int))) (brA (decide ((((ByteArray.extract a0 1 a0.size).size : Nat) : Int) = (0 : Int))) (k (.tup [.int .i64 (0 : Int), .bool false]) ⟨[], []⟩) (brA (decide ((((ByteArray.extract a0 1 a0.size).size : Nat) : Int) > (17 : Int))) (k (.tup [.int .i64 (0 : Int), .bool false]) ⟨[], []⟩) (brA (decide ((0 : Int) < (((ByteArray.extract a0 1 a0.size).size : Nat) : Int))) (brA (decide ((btA (ByteArray.extract a0 1 a0.size) (0 : Int)) = (48 : Int))) (brA (decide ((((ByteArray.extract a0 1 a0.size).size : Nat) : Int) > (1 : Int))) (k (.tup [.int .i64 (0 : Int), .bool false]) ⟨[], []⟩) (brA (decide ((btA a0 (0 : Int)) = (45 : Int))) (k (.tup [.int .i64 (0 : Int), .bool false]) ⟨[], []⟩) (LP_70_0 k (ByteArray.extract a0 1 a0.size) (decide ((btA a0 (0 : Int)) = (45 : Int))) (0 : Int) (0 : Int)))) (LP_70_0 k (ByteArray.extract a0 1 a0.size) (decide ((btA a0 (0 : Int)) = (45 : Int))) (0 : Int) (0 : Int))) (none)))) (none)) (brA (decide (((a0.size : Nat) : Int) = (0 : Int))) (k (.tup [.int .i64 (0 : Int), .bool false]) ⟨[], []⟩) (brA (decide (((a0.size : Nat) : Int) > (17 : Int))) (k (.tup [.int .i64 (0 : Int), .bool false]) ⟨[], []⟩) (brA (decide ((0 : Int) < ((a0.size : Nat) : Int))) (brA (decide ((btA a0 (0 : Int)) = (48 : Int))) (brA (decide (((a0.size : Nat) : Int) > (1 : Int))) (k (.tup [.int .i64 (0 : Int), .bool false]) ⟨[], []⟩) (brA (decide ((btA a0 (0 : Int)) = (45 : Int))) (k (.tup [.int .i64 (0 : Int), .bool false]) ⟨[], []⟩) (LP_70_0 k a0 (decide ((btA a0 (0 : Int)) = (45 : Int))) (0 : Int) (0 : Int)))) (LP_70_0 k a0 (decide ((btA a0 (0 : Int)) = (45 : Int))) (0 : Int) (0 : Int))) (none))))) (none)) (brA (decide (((a0.size : Nat) : Int) = (0 : Int))) (k (.tup [.int .i64 (0 : Int), .bool false]) ⟨[], []⟩) (brA (decide (((a0.size : Nat) : Int) > (17 : Int))) (k (.tup [.int .i64 (0 : Int), .bool false]) ⟨[], []⟩) (brA (decide ((0 : Int) < ((a0.size : Nat) : Int))) (brA (decide ((btA a0 (0 : Int)) = (48 : Int))) (brA (decide (((a0.size : Nat) : Int) > (1 : Int))) (k (.tup [.int .i64 (0 : Int), .bool false]) ⟨[], []⟩) (LP_70_0 k a0 false (0 : Int) (0 : Int))) (LP_70_0 k a0 false (0 : Int) (0 : Int))) (none)))) : Option Unit) := by kernel_rfl
def S_70_0 (N : Nat) : Prop := ∀ (k : AV tau → Mem tau → Option Unit) (x0 : ByteArray) (x1 : Bool) (x2 : Int) (x3 : Int) (r : Int × Bool), spec_l15Num.l0 N (x0) (x1) (x2) (x3) = some r → k (.tup [.int .i64 (r.1), .bool (r.2)]) ⟨[], []⟩ = some () → LP_70_0 k x0 x1 x2 x3 = some ()
theorem L_70 (N : Nat) : S_70_0 N := by
 induction N using Nat.strongRecOn with | _ N0 ih =>
 skip
 intro k x0 x1 x2 x3 r h hk
 rcases N0 with _ | N
 · cases h
 first | rw [spec_l15Num.l0] at h | simp only [spec_l15Num.l0] at h | (unfold spec_l15Num.l0 at h; dsimp only at h)
 refine loop_fold mC_70 mD_70 ?_
 refine (w_70_0 k x0 x1 x2 x3).trans ?_
 refine br_eti h rfl (fun c63 h => ?_) (fun c63 h => ?_)
 ·refine br_eti h dect (fun c64 h => ?_) (fun c64 h => ?_)
  ·cases h; exact hk
  cases h; exact hk
 refine br_g h rfl (fun c65 h => ?_)
 refine br_g h rfl (fun c66 h => ?_)
 refine br_ite h rfl (fun c67 h => ?_) (fun c67 h => ?_)
 ·cases h; exact hk
 refine br_g h rfl (fun c68 h => ?_)
 refine br_g h rfl (fun c69 h => ?_)
 refine br_ite h rfl (fun c70 h => ?_) (fun c70 h => ?_)
 ·cases h; exact hk
 refine br_g h rfl (fun c71 h => ?_)
 refine br_g h rfl (fun c72 h => ?_)
 exact (ih N (by omega)) _ _ _ _ _ _ h hk
theorem okc_70 (args : List (AV tau)) (m : Mem tau) (κ : AV tau → Mem tau → Option Unit) (hh : c_70 args m κ = some ()) : ∃ av m1, κ av m1 = some () ∧ ToldA Tryd.prog TT (pnT 70) 70 args m av m1 := by
 obtain ⟨bx_, rw_⟩ := m
 unfold c_70 at hh
 simp only at hh
 split at hh
 case h_2 => cases hh
 rename_i b0
 obtain ⟨a0, hx0, hh0⟩ := bO_some hh
 have ex0 := asS_some hx0
 subst ex0
 obtain ⟨N, t, h, hκ⟩ := callX_some hh0
 refine ⟨_, _, hκ, told_of_run pq okC_70 (fun _ _ _ => drawA_ok pq okC_70 hmix) (E := E_70) (fn := Tryd.f70) (body := B_70) (by kernel_rfl) (by kernel_rfl) (by kernel_rfl) (by rfl) (by exact Nat.le_of_ble_eq_true rfl) (fun k hk => ?_)⟩
 refine (w_70 a0 k).trans ?_
 replace h : spec_l15Num.f N a0 = some t := h
 unfold spec_l15Num.f at h
 refine br_eti h rfl (fun c73 h => ?_) (fun c73 h => ?_)
 ·refine br_ite h rfl (fun c74 h => ?_) (fun c74 h => ?_)
  ·cases h; exact hk
  refine br_ite h rfl (fun c75 h => ?_) (fun c75 h => ?_)
  ·cases h; exact hk
  refine br_g h rfl (fun c76 h => ?_)
  refine br_eti h rfl (fun c77 h => ?_) (fun c77 h => ?_)
  ·exact (L_70 N) _ _ _ _ _ _ h hk
  refine br_eti h rfl (fun c78 h => ?_) (fun c78 h => ?_)
  ·exact (L_70 N) _ _ _ _ _ _ h hk
  cases h; exact hk
 refine br_g h rfl (fun c79 h => ?_)
 refine br_eti h rfl (fun c80 h => ?_) (fun c80 h => ?_)
 ·refine br_ite h rfl (fun c81 h => ?_) (fun c81 h => ?_)
  ·cases h; exact hk
  refine br_ite h rfl (fun c82 h => ?_) (fun c82 h => ?_)
  ·cases h; exact hk
  refine br_g h rfl (fun c83 h => ?_)
  refine br_eti h rfl (fun c84 h => ?_) (fun c84 h => ?_)
  ·exact (L_70 N) _ _ _ _ _ _ h hk
  refine br_ite h rfl (fun c85 h => ?_) (fun c85 h => ?_)
  ·cases h; exact hk
  refine br_ite h rfl (fun c86 h => ?_) (fun c86 h => ?_)
  ·cases h; exact hk
  exact (L_70 N) _ _ _ _ _ _ h hk
 refine br_g h rfl (fun c87 h => ?_)
 refine br_ite h rfl (fun c88 h => ?_) (fun c88 h => ?_)
 ·cases h; exact hk
 refine br_ite h rfl (fun c89 h => ?_) (fun c89 h => ?_)
 ·cases h; exact hk
 refine br_g h rfl (fun c90 h => ?_)
 refine br_eti h rfl (fun c91 h => ?_) (fun c91 h => ?_)
 ·exact (L_70 N) _ _ _ _ _ _ h hk
 refine br_ite h rfl (fun c92 h => ?_) (fun c92 h => ?_)
 ·cases h; exact hk
 refine br_ite h rfl (fun c93 h => ?_) (fun c93 h => ?_)
 ·cases h; exact hk
 exact (L_70 N) _ _ _ _ _ _ h hk
noncomputable def C_24 : Ctr tau Unit := ctrS 70 c_70 C_70
noncomputable def D_24 : Drw tau := drawA E_24 C_24
theorem okC_24 : CtrOk Tryd.prog TT pnT C_24 := ctrS_ok okC_70 okc_70
theorem mC_24 : CtrMono C_24 := ctrS_mono mC_70 mc_70
theorem mD_24 : DrMono D_24 := drawA_mono mC_24
noncomputable def B_24 : Code := Tryd.f24.body.getD .skip
theorem mc_24 (args : List (AV tau)) (m : Mem tau) (k k' : AV tau → Mem tau → Option Unit) (hk : ∀ av m, k av m = some () → k' av m = some ()) (h : c_24 args m k = some ()) : c_24 args m k' = some () := by
 unfold c_24 at h ⊢
 split at h
 · repeat' first | exact callX_mono (fun _ h => hk _ _ h) h | refine bO_mono (fun _ h => ?_) h
 · cases h
noncomputable def K_24_0 (k : AV tau → Mem tau → Option Unit) : Kon tau := (kBlock 0 (kS E_24 C_24 D_24 (codeP B_24 [1, 1, 1, 1, 1]) (kEnd E_24 Tryd.f24 k)))
def st_24_0 (x0 : Int) (x1 : (List ByteArray)) (x2 : (List S70)) : St tau := ⟨tmL 68 0 [(4, .own 0 0), (5, .own 1 0), (6, .int .i64 x0)], ⟨[], [some ⟨9, x1, 0⟩, some ⟨70, x2, 0⟩]⟩⟩
noncomputable def LP_24_0 (k : AV tau → Mem tau → Option Unit) (x0 : Int) (x1 : (List ByteArray)) (x2 : (List S70)) : Option Unit := loopA E_24 (codeA E_24 C_24 D_24 (codeP B_24 [1, 1, 1, 1, 0, 1, 0, 0])) (codeP B_24 [1, 1, 1, 1, 0, 1, 0, 0]) (K_24_0 k) (st_24_0 x0 x1 x2)
theorem w_24_0 (k : AV tau → Mem tau → Option Unit) (x0 : Int) (x1 : (List ByteArray)) (x2 : (List S70)) : codeA E_24 C_24 D_24 (codeP B_24 [1, 1, 1, 1, 0, 1, 0, 0]) (kL E_24 C_24 D_24 (codeP B_24 [1, 1, 1, 1, 0, 1, 0, 0]) (K_24_0 k)) (st_24_0 x0 x1 x2) = (brA (decide (x0 < ((x1.length : Nat) : Int))) (brA (decide ((0 : Int) ≤ x0)) (brA (decide (x0 < ((x1.length : Nat) : Int))) (callX (fun n => spec_l15Find.f n (rdOf (default : ByteArray) x1 x0) (47 : Int)) fun t1 => brA (decide (t1 < (0 : Int))) (k (.tup [.own 0 0, .bool false]) ⟨[], [some ⟨70, ([] : List S70), 0⟩]⟩) (brA (decide ((0 : Int) ≤ x0)) (brA (decide (x0 < ((x1.length : Nat) : Int))) (brA (decide ((0 : Int) ≤ t1)) (brA (decide (t1 ≤ (((rdOf (default : ByteArray) x1 x0).size : Nat) : Int))) (callX (fun n => spec_l15Num.f n (ByteArray.extract (rdOf (default : ByteArray) x1 x0) 0 (Int.toNat t1))) fun t2 => brA (decide ((0 : Int) ≤ x0)) (brA (decide (x0 < ((x1.length : Nat) : Int))) (brA (decide ((0 : Int) ≤ (wrap64 (t1 + (1 : Int))))) (brA (decide ((wrap64 (t1 + (1 : Int))) ≤ (((rdOf (default : ByteArray) x1 x0).size : Nat) : Int))) (callX (fun n => spec_l15Num.f n (ByteArray.extract (rdOf (default : ByteArray) x1 x0) (Int.toNat (wrap64 (t1 + (1 : Int)))) ((rdOf (default : ByteArray) x1 x0).size))) fun t3 => brA (!t2.2) (k (.tup [.own 0 0, .bool false]) ⟨[], [some ⟨70, ([] : List S70), 0⟩]⟩) (brA (!t3.2) (k (.tup [.own 0 0, .bool false]) ⟨[], [some ⟨70, ([] : List S70), 0⟩]⟩) (brA (decide ((x2.length + 1) ≤ 8796093022208)) (LP_24_0 k (wrap64 (x0 + (1 : Int))) x1 (x2 ++ ([(⟨t3.1, t2.1⟩ : S70)] : List S70))) (none)))) (none)) (none)) (none)) (none)) (none)) (none)) (none)) (none))) (none)) (none)) (callX (fun n => spec_BoxOk.f n x2) fun t4 => brA (!t4) (k (.tup [.own 0 0, .bool false]) ⟨[], [some ⟨70, ([] : List S70), 0⟩]⟩) (k (.tup [.own 0 0, .bool true]) ⟨[], [some ⟨70, x2, 0⟩]⟩)) : Option Unit) := by
 simp only [← wrapA_i64]
 kernel_rfl
theorem w_24 (a0 : ByteArray) (k : AV tau → Mem tau → Option Unit) : fnA E_24 C_24 D_24 Tryd.f24 B_24 [.str a0] ⟨[], []⟩ k = (brA (decide (((a0.size : Nat) : Int) > (100 : Int))) (k (.tup [.own 0 0, .bool false]) ⟨[], [some ⟨70, ([] : List S70), 0⟩]⟩) (callX (fun n => spec_l15Cut.f n a0 (32 : Int)) fun t0 => LP_24_0 k (0 : Int) t0 ([] : List S70)) : Option Unit) := by kernel_rfl
def S_24_0 (N : Nat) : Prop := ∀ (k : AV tau → Mem tau → Option Unit) (x0 : Int) (x1 : (List ByteArray)) (x2 : (List S70)) (r : (List S70) × Bool), spec_BoxRead.l0 N (x0) (x1) (x2) = some r → k (.tup [.own 0 0, .bool (r.2)]) ⟨[], [some ⟨70, r.1, 0⟩]⟩ = some () → LP_24_0 k x0 x1 x2 = some ()
theorem L_24 (N : Nat) : S_24_0 N := by
 induction N using Nat.strongRecOn with | _ N0 ih =>
 skip
 intro k x0 x1 x2 r h hk
 rcases N0 with _ | N
 · cases h
 first | rw [spec_BoxRead.l0] at h | simp only [spec_BoxRead.l0] at h | (unfold spec_BoxRead.l0 at h; dsimp only at h)
 refine loop_fold mC_24 mD_24 ?_
 refine (w_24_0 k x0 x1 x2).trans ?_
 refine br_eti h rfl (fun c45 h => ?_) (fun c45 h => ?_)
 ·refine call_h N h (fun t4 e46 h => ?_)
  refine br_itn h (congrArg not dect) (fun c47 h => ?_) (fun c47 h => ?_)
  ·cases h; exact hk
  cases h; exact hk
 refine br_g h rfl (fun c48 h => ?_)
 refine br_g h rfl (fun c49 h => ?_)
 refine call_h N h (fun t1 e50 h => ?_)
 refine br_ite h rfl (fun c51 h => ?_) (fun c51 h => ?_)
 ·cases h; exact hk
 refine br_g h rfl (fun c52 h => ?_)
 refine br_g h rfl (fun c53 h => ?_)
 refine br_g h rfl (fun c54 h => ?_)
 refine br_g h rfl (fun c55 h => ?_)
 refine call_h N h (fun t2 e56 h => ?_)
 refine br_g h rfl (fun c57 h => ?_)
 refine br_g h rfl (fun c58 h => ?_)
 refine br_g h rfl (fun c59 h => ?_)
 refine br_g h rfl (fun c60 h => ?_)
 refine call_h N h (fun t3 e61 h => ?_)
 refine br_etn h (congrArg not dect) (fun c62 h => ?_) (fun c62 h => ?_)
 ·cases h; exact hk
 refine br_etn h (congrArg not dect) (fun c63 h => ?_) (fun c63 h => ?_)
 ·cases h; exact hk
 refine br_g h rfl (fun c64 h => ?_)
 exact (ih N (by omega)) _ _ _ _ _ h hk
theorem okc_24 (args : List (AV tau)) (m : Mem tau) (κ : AV tau → Mem tau → Option Unit) (hh : c_24 args m κ = some ()) : ∃ av m1, κ av m1 = some () ∧ ToldA Tryd.prog TT (pnT 24) 24 args m av m1 := by
 obtain ⟨bx_, rw_⟩ := m
 unfold c_24 at hh
 simp only at hh
 split at hh
 case h_2 => cases hh
 rename_i b0
 obtain ⟨a0, hx0, hh0⟩ := bO_some hh
 have ex0 := asS_some hx0
 subst ex0
 obtain ⟨N, t, h, hκ⟩ := callX_some hh0
 refine ⟨_, _, hκ, told_of_run pq okC_24 (fun _ _ _ => drawA_ok pq okC_24 hmix) (E := E_24) (fn := Tryd.f24) (body := B_24) (by kernel_rfl) (by kernel_rfl) (by kernel_rfl) (by rfl) (by exact Nat.le_of_ble_eq_true rfl) (fun k hk => ?_)⟩
 refine (w_24 a0 k).trans ?_
 replace h : spec_BoxRead.f N a0 = some t := h
 unfold spec_BoxRead.f at h
 refine br_ite h rfl (fun c65 h => ?_) (fun c65 h => ?_)
 ·cases h; exact hk
 refine call_h N h (fun t0 e66 h => ?_)
 exact (L_24 N) _ _ _ _ _ h hk
noncomputable def C_61 : Ctr tau Unit := ctrS 24 c_24 C_24
noncomputable def D_61 : Drw tau := drawA E_61 C_61
theorem okC_61 : CtrOk Tryd.prog TT pnT C_61 := ctrS_ok okC_24 okc_24
theorem mC_61 : CtrMono C_61 := ctrS_mono mC_24 mc_24
theorem mD_61 : DrMono D_61 := drawA_mono mC_61
noncomputable def B_61 : Code := Tryd.f61.body.getD .skip
theorem mc_61 (args : List (AV tau)) (m : Mem tau) (k k' : AV tau → Mem tau → Option Unit) (hk : ∀ av m, k av m = some () → k' av m = some ()) (h : c_61 args m k = some ()) : c_61 args m k' = some () := by
 unfold c_61 at h ⊢
 split at h
 · repeat' first | exact callX_mono (fun _ h => hk _ _ h) h | refine bO_mono (fun _ h => ?_) h
 · cases h
noncomputable def K_61_0 (k : AV tau → Mem tau → Option Unit) : Kon tau := (kBlock 0 (kS E_61 C_61 D_61 (codeP B_61 [1, 1, 1, 1, 1]) (kEnd E_61 Tryd.f61 k)))
def st_61_0 (x0 : ByteArray) (x1 : ByteArray) (x2 : Int) (x3 : Int) : St tau := ⟨tmL 62 0 [(0, .str x0), (4, .str x1), (5, .int .i64 x2), (6, .int .i64 x3)], ⟨[], []⟩⟩
noncomputable def LP_61_0 (k : AV tau → Mem tau → Option Unit) (x0 : ByteArray) (x1 : ByteArray) (x2 : Int) (x3 : Int) : Option Unit := loopA E_61 (codeA E_61 C_61 D_61 (codeP B_61 [1, 1, 1, 1, 0, 1, 0, 0])) (codeP B_61 [1, 1, 1, 1, 0, 1, 0, 0]) (K_61_0 k) (st_61_0 x0 x1 x2 x3)
theorem w_61_0 (k : AV tau → Mem tau → Option Unit) (x0 : ByteArray) (x1 : ByteArray) (x2 : Int) (x3 : Int) : codeA E_61 C_61 D_61 (codeP B_61 [1, 1, 1, 1, 0, 1, 0, 0]) (kL E_61 C_61 D_61 (codeP B_61 [1, 1, 1, 1, 0, 1, 0, 0]) (K_61_0 k)) (st_61_0 x0 x1 x2 x3) = (brA (decide (x3 < ((x1.size : Nat) : Int))) (brA (decide ((0 : Int) ≤ x3)) (brA (decide (x3 < ((x1.size : Nat) : Int))) (callX (fun n => impl_in.f (wrap64 (btA x1 x3)) (48 : Int) (57 : Int)) fun t1 => brA (!t1) (k (.tup [.int .i64 (0 : Int), .bool false]) ⟨[], []⟩) (brA (decide ((0 : Int) ≤ x3)) (brA (decide (x3 < ((x1.size : Nat) : Int))) (LP_61_0 k x0 x1 (wrap64 ((wrap64 ((10 : Int) * x2)) + (wrap64 (IntKind.wrap .u8 ((btA x1 x3) - (48 : Int)))))) (wrap64 (x3 + (1 : Int)))) (none)) (none))) (none)) (none)) (brA (decide (((x0.size : Nat) : Int) > ((x1.size : Nat) : Int))) (k (.tup [.int .i64 (wrap64 ((0 : Int) - x2)), .bool true]) ⟨[], []⟩) (k (.tup [.int .i64 x2, .bool true]) ⟨[], []⟩)) : Option Unit) := by
 simp only [← wrapA_i64]
 kernel_rfl
theorem w_61 (a0 : ByteArray) (k : AV tau → Mem tau → Option Unit) : fnA E_61 C_61 D_61 Tryd.f61 B_61 [.str a0] ⟨[], []⟩ k = (callX (fun n => strings_TrimPrefix.f n a0 (bs [45])) fun t0 => brA (decide (((t0.size : Nat) : Int) < (1 : Int))) (k (.tup [.int .i64 (0 : Int), .bool false]) ⟨[], []⟩) (brA (decide (((t0.size : Nat) : Int) > (9 : Int))) (k (.tup [.int .i64 (0 : Int), .bool false]) ⟨[], []⟩) (brA (decide ((0 : Int) < ((t0.size : Nat) : Int))) (brA (decide ((btA t0 (0 : Int)) = (48 : Int))) (brA (decide (((t0.size : Nat) : Int) > (1 : Int))) (k (.tup [.int .i64 (0 : Int), .bool false]) ⟨[], []⟩) (brA (decide (((a0.size : Nat) : Int) > ((t0.size : Nat) : Int))) (k (.tup [.int .i64 (0 : Int), .bool false]) ⟨[], []⟩) (LP_61_0 k a0 t0 (0 : Int) (0 : Int)))) (LP_61_0 k a0 t0 (0 : Int) (0 : Int))) (none))) : Option Unit) := by kernel_rfl
def S_61_0 (N : Nat) : Prop := ∀ (k : AV tau → Mem tau → Option Unit) (x0 : ByteArray) (x1 : ByteArray) (x2 : Int) (x3 : Int) (r : Int × Bool), impl_integer.l0 N (x0) (x1) (x2) (x3) = some r → k (.tup [.int .i64 (r.1), .bool (r.2)]) ⟨[], []⟩ = some () → LP_61_0 k x0 x1 x2 x3 = some ()
theorem L_61 (N : Nat) : S_61_0 N := by
 induction N using Nat.strongRecOn with | _ N0 ih =>
 skip
 intro k x0 x1 x2 x3 r h hk
 rcases N0 with _ | N
 · cases h
 first | rw [impl_integer.l0] at h | simp only [impl_integer.l0] at h | (unfold impl_integer.l0 at h; dsimp only at h)
 refine loop_fold mC_61 mD_61 ?_
 refine (w_61_0 k x0 x1 x2 x3).trans ?_
 refine br_eti h rfl (fun c31 h => ?_) (fun c31 h => ?_)
 ·refine br_eti h rfl (fun c32 h => ?_) (fun c32 h => ?_)
  ·cases h; exact hk
  cases h; exact hk
 refine br_g h rfl (fun c33 h => ?_)
 refine br_g h rfl (fun c34 h => ?_)
 refine call_h 0 h (fun t1 e35 h => ?_)
 refine br_etn h (congrArg not dect) (fun c36 h => ?_) (fun c36 h => ?_)
 ·cases h; exact hk
 refine br_g h rfl (fun c37 h => ?_)
 refine br_g h rfl (fun c38 h => ?_)
 exact (ih N (by omega)) _ _ _ _ _ _ h hk
theorem okc_61 (args : List (AV tau)) (m : Mem tau) (κ : AV tau → Mem tau → Option Unit) (hh : c_61 args m κ = some ()) : ∃ av m1, κ av m1 = some () ∧ ToldA Tryd.prog TT (pnT 61) 61 args m av m1 := by
 obtain ⟨bx_, rw_⟩ := m
 unfold c_61 at hh
 simp only at hh
 split at hh
 case h_2 => cases hh
 rename_i b0
 obtain ⟨a0, hx0, hh0⟩ := bO_some hh
 have ex0 := asS_some hx0
 subst ex0
 obtain ⟨N, t, h, hκ⟩ := callX_some hh0
 refine ⟨_, _, hκ, told_of_run pq okC_61 (fun _ _ _ => drawA_ok pq okC_61 hmix) (E := E_61) (fn := Tryd.f61) (body := B_61) (by kernel_rfl) (by kernel_rfl) (by kernel_rfl) (by rfl) (by exact Nat.le_of_ble_eq_true rfl) (fun k hk => ?_)⟩
 refine (w_61 a0 k).trans ?_
 replace h : impl_integer.f N a0 = some t := h
 unfold impl_integer.f at h
 refine call_h N h (fun t0 e39 h => ?_)
 refine br_ite h rfl (fun c40 h => ?_) (fun c40 h => ?_)
 ·cases h; exact hk
 refine br_ite h rfl (fun c41 h => ?_) (fun c41 h => ?_)
 ·cases h; exact hk
 refine br_g h rfl (fun c42 h => ?_)
 refine br_eti h rfl (fun c43 h => ?_) (fun c43 h => ?_)
 ·exact (L_61 N) _ _ _ _ _ _ h hk
 refine br_ite h rfl (fun c44 h => ?_) (fun c44 h => ?_)
 ·cases h; exact hk
 refine br_eti h rfl (fun c45 h => ?_) (fun c45 h => ?_)
 ·exact (L_61 N) _ _ _ _ _ _ h hk
 cases h; exact hk
noncomputable def C_17 : Ctr tau Unit := ctrS 61 c_61 C_61
noncomputable def D_17 : Drw tau := drawA E_17 C_17
theorem okC_17 : CtrOk Tryd.prog TT pnT C_17 := ctrS_ok okC_61 okc_61
theorem mC_17 : CtrMono C_17 := ctrS_mono mC_61 mc_61
theorem mD_17 : DrMono D_17 := drawA_mono mC_17
noncomputable def B_17 : Code := Tryd.f17.body.getD .skip
theorem mc_17 (args : List (AV tau)) (m : Mem tau) (k k' : AV tau → Mem tau → Option Unit) (hk : ∀ av m, k av m = some () → k' av m = some ()) (h : c_17 args m k = some ()) : c_17 args m k' = some () := by
 unfold c_17 at h ⊢
 split at h
 · repeat' first | exact callX_mono (fun _ h => hk _ _ h) h | refine bO_mono (fun _ h => ?_) h
 · cases h
noncomputable def K_17_0 (k : AV tau → Mem tau → Option Unit) : Kon tau := (kBlock 0 (kS E_17 C_17 D_17 (codeP B_17 [1, 1, 1]) (kEnd E_17 Tryd.f17 k)))
def st_17_0 (x0 : (List S70)) (x1 : Int) (x2 : Int) (x3 : (List ByteArray)) : St tau := ⟨tmL 26 0 [(3, .own 0 0), (6, .sl 70 x0), (7, .int .i64 x1), (8, .int .i64 x2)], ⟨[], [some ⟨9, x3, 0⟩]⟩⟩
noncomputable def LP_17_0 (k : AV tau → Mem tau → Option Unit) (x0 : (List S70)) (x1 : Int) (x2 : Int) (x3 : (List ByteArray)) : Option Unit := loopA E_17 (codeA E_17 C_17 D_17 (codeP B_17 [1, 1, 0, 1, 0, 0])) (codeP B_17 [1, 1, 0, 1, 0, 0]) (K_17_0 k) (st_17_0 x0 x1 x2 x3)
theorem w_17_0 (k : AV tau → Mem tau → Option Unit) (x0 : (List S70)) (x1 : Int) (x2 : Int) (x3 : (List ByteArray)) : codeA E_17 C_17 D_17 (codeP B_17 [1, 1, 0, 1, 0, 0]) (kL E_17 C_17 D_17 (codeP B_17 [1, 1, 0, 1, 0, 0]) (K_17_0 k)) (st_17_0 x0 x1 x2 x3) = (brA (decide (x2 < x1)) (brA (decide ((0 : Int) ≤ x2)) (brA (decide (x2 < ((x0.length : Nat) : Int))) (callX (fun n => strconv_Itoa.f n ((rd_T70 x0 x2).f1)) fun t0 => brA (decide ((t0.size + 1) ≤ 9223372036854775807)) (callX (fun n => strconv_Itoa.f n ((rd_T70 x0 x2).f0)) fun t1 => brA (decide (((t0 ++ (bs [47])).size + t1.size) ≤ 9223372036854775807)) (brA (decide ((x3.length + 1) ≤ 8796093022208)) (LP_17_0 k x0 x1 (wrap64 (x2 + (1 : Int))) (x3 ++ ([((t0 ++ (bs [47])) ++ t1)] : List ByteArray))) (none)) (none)) (none)) (none)) (none)) (callX (fun n => strings_Join.f n x3 (bs [32])) fun t2 => k (.str t2) ⟨[], []⟩) : Option Unit) := by
 simp only [← wrapA_i64]
 kernel_rfl
theorem w_17 (l0 : List S70) (k : AV tau → Mem tau → Option Unit) : fnA E_17 C_17 D_17 Tryd.f17 B_17 [.sl 70 l0] ⟨[], []⟩ k = (LP_17_0 k l0 ((l0.length : Nat) : Int) (0 : Int) ([] : List ByteArray) : Option Unit) := by kernel_rfl
def S_17_0 (N : Nat) : Prop := ∀ (k : AV tau → Mem tau → Option Unit) (x0 : (List S70)) (x1 : Int) (x2 : Int) (x3 : (List ByteArray)) (r : ByteArray), impl_BoxText.l0 N (x0) (x1) (x2) (x3) = some r → k (.str (r)) ⟨[], []⟩ = some () → LP_17_0 k x0 x1 x2 x3 = some ()
theorem L_17 (N : Nat) : S_17_0 N := by
 induction N using Nat.strongRecOn with | _ N0 ih =>
 skip
 intro k x0 x1 x2 x3 r h hk
 rcases N0 with _ | N
 · cases h
 first | rw [impl_BoxText.l0] at h | simp only [impl_BoxText.l0] at h | (unfold impl_BoxText.l0 at h; dsimp only at h)
 refine loop_fold mC_17 mD_17 ?_
 refine (w_17_0 k x0 x1 x2 x3).trans ?_
 refine br_eti h rfl (fun c19 h => ?_) (fun c19 h => ?_)
 ·refine call_h N h (fun t2 e20 h => ?_)
  cases h; exact hk
 refine br_g h rfl (fun c21 h => ?_)
 refine br_g h rfl (fun c22 h => ?_)
 refine call_h N h (fun t0 e23 h => ?_)
 refine br_g h rfl (fun c24 h => ?_)
 refine call_h N h (fun t1 e25 h => ?_)
 refine br_g h rfl (fun c26 h => ?_)
 refine br_g h rfl (fun c27 h => ?_)
 exact (ih N (by omega)) _ _ _ _ _ _ h hk
theorem okc_17 (args : List (AV tau)) (m : Mem tau) (κ : AV tau → Mem tau → Option Unit) (hh : c_17 args m κ = some ()) : ∃ av m1, κ av m1 = some () ∧ ToldA Tryd.prog TT (pnT 17) 17 args m av m1 := by
 obtain ⟨bx_, rw_⟩ := m
 unfold c_17 at hh
 simp only at hh
 split at hh
 case h_2 => cases hh
 rename_i b0
 obtain ⟨l0, hx0, hh0⟩ := bO_some hh
 have ex0 := asSl_some hx0
 subst ex0
 obtain ⟨N, t, h, hκ⟩ := callX_some hh0
 refine ⟨_, _, hκ, told_of_run pq okC_17 (fun _ _ _ => drawA_ok pq okC_17 hmix) (E := E_17) (fn := Tryd.f17) (body := B_17) (by kernel_rfl) (by kernel_rfl) (by kernel_rfl) (by rfl) (by exact Nat.le_of_ble_eq_true rfl) (fun k hk => ?_)⟩
 refine (w_17 l0 k).trans ?_
 replace h : impl_BoxText.f N l0 = some t := h
 unfold impl_BoxText.f at h
 exact (L_17 N) _ _ _ _ _ _ h hk
noncomputable def C_18 : Ctr tau Unit := ctrS 17 c_17 C_17
noncomputable def D_18 : Drw tau := drawA E_18 C_18
theorem okC_18 : CtrOk Tryd.prog TT pnT C_18 := ctrS_ok okC_17 okc_17
theorem mC_18 : CtrMono C_18 := ctrS_mono mC_17 mc_17
theorem mD_18 : DrMono D_18 := drawA_mono mC_18
noncomputable def B_18 : Code := Tryd.f18.body.getD .skip
theorem mc_18 (args : List (AV tau)) (m : Mem tau) (k k' : AV tau → Mem tau → Option Unit) (hk : ∀ av m, k av m = some () → k' av m = some ()) (h : c_18 args m k = some ()) : c_18 args m k' = some () := by
 unfold c_18 at h ⊢
 split at h
 · repeat' first | exact callX_mono (fun _ h => hk _ _ h) h | refine bO_mono (fun _ h => ?_) h
 · cases h
noncomputable def K_18_0 (k : AV tau → Mem tau → Option Unit) : Kon tau := (kBlock 0 (kS E_18 C_18 D_18 (codeP B_18 [1, 1, 1, 1]) (kEnd E_18 Tryd.f18 k)))
def st_18_0 (x0 : ByteArray) (x1 : Int) (x2 : Int) (x3 : (List S70)) (x4 : (List ByteArray)) : St tau := ⟨tmL 64 0 [(0, .str x0), (4, .own 0 0), (18, .own 1 0), (19, .int .i64 x1), (20, .int .i64 x2)], ⟨[], [some ⟨70, x3, 0⟩, some ⟨9, x4, 0⟩]⟩⟩
noncomputable def LP_18_0 (k : AV tau → Mem tau → Option Unit) (x0 : ByteArray) (x1 : Int) (x2 : Int) (x3 : (List S70)) (x4 : (List ByteArray)) : Option Unit := loopA E_18 (codeA E_18 C_18 D_18 (codeP B_18 [1, 1, 1, 0, 1, 0, 0])) (codeP B_18 [1, 1, 1, 0, 1, 0, 0]) (K_18_0 k) (st_18_0 x0 x1 x2 x3 x4)
theorem w_18_0 (k : AV tau → Mem tau → Option Unit) (x0 : ByteArray) (x1 : Int) (x2 : Int) (x3 : (List S70)) (x4 : (List ByteArray)) : codeA E_18 C_18 D_18 (codeP B_18 [1, 1, 1, 0, 1, 0, 0]) (kL E_18 C_18 D_18 (codeP B_18 [1, 1, 1, 0, 1, 0, 0]) (K_18_0 k)) (st_18_0 x0 x1 x2 x3 x4) = (brA (decide (x2 < x1)) (brA (decide ((0 : Int) ≤ x2)) (brA (decide (x2 < ((x4.length : Nat) : Int))) (callX (fun n => strings_Cut.f n (rdOf (default : ByteArray) x4 x2) (bs [47])) fun t1 => callX (fun n => impl_integer.f n t1.1) fun t2 => callX (fun n => impl_integer.f n t1.2.1) fun t3 => brA (!t2.2) (k (.tup [.own 0 0, .bool false]) ⟨[], [some ⟨70, ([] : List S70), 0⟩]⟩) (brA (!t3.2) (k (.tup [.own 0 0, .bool false]) ⟨[], [some ⟨70, ([] : List S70), 0⟩]⟩) (brA (decide ((x3.length + 1) ≤ 8796093022208)) (LP_18_0 k x0 x1 (wrap64 (x2 + (1 : Int))) (x3 ++ ([(⟨t3.1, t2.1⟩ : S70)] : List S70)) x4) (none)))) (none)) (none)) (callX (fun n => impl_BoxOk.f n x3) fun t4 => brA (!t4) (k (.tup [.own 0 0, .bool false]) ⟨[], [some ⟨70, ([] : List S70), 0⟩]⟩) (callX (fun n => impl_BoxText.f n x3) fun t5 => brA (!(decide (t5 = x0))) (k (.tup [.own 0 0, .bool false]) ⟨[], [some ⟨70, ([] : List S70), 0⟩]⟩) (callX (fun n => impl_copied_impl_Box.f x3) fun t6 => k (.tup [.own 0 0, .bool true]) ⟨[], [some ⟨70, t6, 0⟩]⟩))) : Option Unit) := by
 simp only [← wrapA_i64]
 kernel_rfl
theorem w_18 (a0 : ByteArray) (k : AV tau → Mem tau → Option Unit) : fnA E_18 C_18 D_18 Tryd.f18 B_18 [.str a0] ⟨[], []⟩ k = (brA (decide (((a0.size : Nat) : Int) > (100 : Int))) (k (.tup [.own 0 0, .bool false]) ⟨[], [some ⟨70, ([] : List S70), 0⟩]⟩) (callX (fun n => strings_Split.f n a0 (bs [32])) fun t0 => LP_18_0 k a0 ((t0.length : Nat) : Int) (0 : Int) ([] : List S70) t0) : Option Unit) := by kernel_rfl
def S_18_0 (N : Nat) : Prop := ∀ (k : AV tau → Mem tau → Option Unit) (x0 : ByteArray) (x1 : Int) (x2 : Int) (x3 : (List S70)) (x4 : (List ByteArray)) (r : (List S70) × Bool), impl_BoxRead.l0 N (x0) (x1) (x2) (x3) (x4) = some r → k (.tup [.own 0 0, .bool (r.2)]) ⟨[], [some ⟨70, r.1, 0⟩]⟩ = some () → LP_18_0 k x0 x1 x2 x3 x4 = some ()
theorem L_18 (N : Nat) : S_18_0 N := by
 induction N using Nat.strongRecOn with | _ N0 ih =>
 skip
 intro k x0 x1 x2 x3 x4 r h hk
 rcases N0 with _ | N
 · cases h
 first | rw [impl_BoxRead.l0] at h | simp only [impl_BoxRead.l0] at h | (unfold impl_BoxRead.l0 at h; dsimp only at h)
 refine loop_fold mC_18 mD_18 ?_
 refine (w_18_0 k x0 x1 x2 x3 x4).trans ?_
 refine br_eti h rfl (fun c33 h => ?_) (fun c33 h => ?_)
 ·refine call_h N h (fun t4 e34 h => ?_)
  refine br_etn h (congrArg not dect) (fun c35 h => ?_) (fun c35 h => ?_)
  ·cases h; exact hk
  refine call_h N h (fun t5 e36 h => ?_)
  refine br_etn h rfl (fun c37 h => ?_) (fun c37 h => ?_)
  ·cases h; exact hk
  refine call_h 0 h (fun t6 e38 h => ?_)
  cases h; exact hk
 refine br_g h rfl (fun c39 h => ?_)
 refine br_g h rfl (fun c40 h => ?_)
 refine call_h N h (fun t1 e41 h => ?_)
 refine call_h N h (fun t2 e42 h => ?_)
 refine call_h N h (fun t3 e43 h => ?_)
 refine br_etn h (congrArg not dect) (fun c44 h => ?_) (fun c44 h => ?_)
 ·cases h; exact hk
 refine br_etn h (congrArg not dect) (fun c45 h => ?_) (fun c45 h => ?_)
 ·cases h; exact hk
 refine br_g h rfl (fun c46 h => ?_)
 exact (ih N (by omega)) _ _ _ _ _ _ _ h hk
theorem okc_18 (args : List (AV tau)) (m : Mem tau) (κ : AV tau → Mem tau → Option Unit) (hh : c_18 args m κ = some ()) : ∃ av m1, κ av m1 = some () ∧ ToldA Tryd.prog TT (pnT 18) 18 args m av m1 := by
 obtain ⟨bx_, rw_⟩ := m
 unfold c_18 at hh
 simp only at hh
 split at hh
 case h_2 => cases hh
 rename_i b0
 obtain ⟨a0, hx0, hh0⟩ := bO_some hh
 have ex0 := asS_some hx0
 subst ex0
 obtain ⟨N, t, h, hκ⟩ := callX_some hh0
 refine ⟨_, _, hκ, told_of_run pq okC_18 (fun _ _ _ => drawA_ok pq okC_18 hmix) (E := E_18) (fn := Tryd.f18) (body := B_18) (by kernel_rfl) (by kernel_rfl) (by kernel_rfl) (by rfl) (by exact Nat.le_of_ble_eq_true rfl) (fun k hk => ?_)⟩
 refine (w_18 a0 k).trans ?_
 replace h : impl_BoxRead.f N a0 = some t := h
 unfold impl_BoxRead.f at h
 refine br_ite h rfl (fun c47 h => ?_) (fun c47 h => ?_)
 ·cases h; exact hk
 refine call_h N h (fun t0 e48 h => ?_)
 exact (L_18 N) _ _ _ _ _ _ _ h hk
noncomputable def C_10 : Ctr tau Unit := ctrS 18 c_18 C_18
noncomputable def D_10 : Drw tau := drawA E_10 C_10
theorem okC_10 : CtrOk Tryd.prog TT pnT C_10 := ctrS_ok okC_18 okc_18
theorem mC_10 : CtrMono C_10 := ctrS_mono mC_18 mc_18
theorem mD_10 : DrMono D_10 := drawA_mono mC_10
noncomputable def B_10 : Code := Tryd.f10.body.getD .skip
theorem mc_10 (args : List (AV tau)) (m : Mem tau) (k k' : AV tau → Mem tau → Option Unit) (hk : ∀ av m, k av m = some () → k' av m = some ()) (h : c_10 args m k = some ()) : c_10 args m k' = some () := by
 unfold c_10 at h ⊢
 split at h
 · repeat' first | exact callX_mono (fun _ h => hk _ _ h) h | refine bO_mono (fun _ h => ?_) h
 · cases h
theorem w_10 (a0 : ByteArray) (k : AV tau → Mem tau → Option Unit) : fnA E_10 C_10 D_10 Tryd.f10 B_10 [.str a0] ⟨[], []⟩ k = (brA (decide (((a0.size : Nat) : Int) > (1048576 : Int))) (k (.bool true) ⟨[], []⟩) (callX (fun n => spec_BoxRead.f n a0) fun t0 => callX (fun n => impl_BoxRead.f n a0) fun t1 => callX (fun n => laws_eqBoxS.f n t1.1 t0.1) fun t2 => brA (!t2) (k (.bool false) ⟨[], []⟩) (brA (!(t1.2 == t0.2)) (k (.bool false) ⟨[], []⟩) (callX (fun n => laws_markBoxS.f n t1.1 (1 : Int)) fun t3 => callX (fun n => laws_heldBoxS.f n t3.2 (1 : Int)) fun t4 => brA (decide (t4 < (0 : Int))) (k (.bool false) ⟨[], []⟩) (brA (!(decide (t4 = t3.1))) (k (.bool false) ⟨[], []⟩) (callX (fun n => impl_BoxRead.f n a0) fun t5 => callX (fun n => laws_eqBoxS.f n t5.1 t0.1) fun t6 => brA (!t6) (k (.bool false) ⟨[], []⟩) (brA (!(t5.2 == t0.2)) (k (.bool false) ⟨[], []⟩) (callX (fun n => laws_heldBoxS.f n t3.2 (1 : Int)) fun t7 => brA (decide (t7 < (0 : Int))) (k (.bool false) ⟨[], []⟩) (brA (!(decide (t7 = t3.1))) (k (.bool false) ⟨[], []⟩) (k (.bool true) ⟨[], []⟩))))))))) : Option Unit) := by kernel_rfl
theorem okc_10 (args : List (AV tau)) (m : Mem tau) (κ : AV tau → Mem tau → Option Unit) (hh : c_10 args m κ = some ()) : ∃ av m1, κ av m1 = some () ∧ ToldA Tryd.prog TT (pnT 10) 10 args m av m1 := by
 obtain ⟨bx_, rw_⟩ := m
 unfold c_10 at hh
 simp only at hh
 split at hh
 case h_2 => cases hh
 rename_i b0
 obtain ⟨a0, hx0, hh0⟩ := bO_some hh
 have ex0 := asS_some hx0
 subst ex0
 obtain ⟨N, t, h, hκ⟩ := callX_some hh0
 refine ⟨_, _, hκ, told_of_run pq okC_10 (fun _ _ _ => drawA_ok pq okC_10 hmix) (E := E_10) (fn := Tryd.f10) (body := B_10) (by kernel_rfl) (by kernel_rfl) (by kernel_rfl) (by rfl) (by exact Nat.le_of_ble_eq_true rfl) (fun k hk => ?_)⟩
 refine (w_10 a0 k).trans ?_
 replace h : laws_FnExactBoxRead.f N a0 = some t := h
 unfold laws_FnExactBoxRead.f at h
 refine br_ite h rfl (fun c18 h => ?_) (fun c18 h => ?_)
 ·cases h; exact hk
 refine call_h N h (fun t0 e19 h => ?_)
 refine call_h N h (fun t1 e20 h => ?_)
 refine call_h N h (fun t2 e21 h => ?_)
 refine br_etn h (congrArg not dect) (fun c22 h => ?_) (fun c22 h => ?_)
 ·cases h; exact hk
 refine br_etn h (by first | rfl | exact dect | exact (congrArg not dect) | (simp; done) | (simp [beqI]; done) | (simp; omega)) (fun c23 h => ?_) (fun c23 h => ?_)
 ·cases h; exact hk
 refine call_h N h (fun t3 e24 h => ?_)
 refine call_h N h (fun t4 e25 h => ?_)
 refine br_ite h rfl (fun c26 h => ?_) (fun c26 h => ?_)
 ·cases h; exact hk
 refine br_etn h rfl (fun c27 h => ?_) (fun c27 h => ?_)
 ·cases h; exact hk
 refine call_h N h (fun t5 e28 h => ?_)
 refine call_h N h (fun t6 e29 h => ?_)
 refine br_etn h (congrArg not dect) (fun c30 h => ?_) (fun c30 h => ?_)
 ·cases h; exact hk
 refine br_etn h (by first | rfl | exact dect | exact (congrArg not dect) | (simp; done) | (simp [beqI]; done) | (simp; omega)) (fun c31 h => ?_) (fun c31 h => ?_)
 ·cases h; exact hk
 refine call_h N h (fun t7 e32 h => ?_)
 refine br_ite h rfl (fun c33 h => ?_) (fun c33 h => ?_)
 ·cases h; exact hk
 refine br_itn h rfl (fun c34 h => ?_) (fun c34 h => ?_)
 ·cases h; exact hk
 cases h; exact hk
end Go.Proofs.YtlpgpckggnimhaaDoor.PFnExactBoxRead