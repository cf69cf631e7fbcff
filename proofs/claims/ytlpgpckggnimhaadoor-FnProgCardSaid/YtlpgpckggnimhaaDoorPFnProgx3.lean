/- The machine's texts of FnProg (the law's walk). Conditions: none. -/
import Derived.Test.YtlpgpckggnimhaaDoorPFnProgx2
import Derived.Test.YtlpgpckggnimhaaDoorAm40
import Derived.Test.YtlpgpckggnimhaaDoorSWFnProg
set_option linter.unusedVariables false
set_option maxRecDepth 100000
namespace Go.Proofs.YtlpgpckggnimhaaDoor.PFnProg
open Go.RowKit Go.Proofs.YtlpgpckggnimhaaDoorW.PrintWords Go.Proofs.YtlpgpckggnimhaaDoorW.PrintLast Go.Proofs.YtlpgpckggnimhaaDoorW.PrintMore
open Go Go.Proofs Am
def laws_FnProg.Pure : Prop := ∀ (l0 : (List Int)) (l1 : (List Int)), (l0.length ≤ 9223372036854775807 ∧ ∀ y ∈ l0, (Lit.int .u8 y).wf = true) → (l1.length ≤ 9223372036854775807 ∧ ∀ y ∈ l1, (Lit.int .u8 y).wf = true) → ∃ k, laws_FnProg.f k l0 l1 = some true
theorem lr_pt {w : World} {lf lf' : Lf tau} {lt lt' : LT} {v v' : Value} (h1 : some lf' = some lf) (h2 : some lt' = some lt) (h3 : some v' = some v) (h : LR TT (Am.Safe eta0 (⟨[], []⟩ : Mem tau)) w lt' lf' v') : LR TT (Am.Safe eta0 (⟨[], []⟩ : Mem tau)) w lt lf v := by cases h1; cases h2; cases h3; exact h
theorem lr5 {w : World} {A : Option Addr} {c : Nat} {l : List Int} (h : Kd.C (Kd.int .u8) w A l.length l) (hc : l.length ≤ c) : LR TT (Am.Safe eta0 (⟨[], []⟩ : Mem tau)) w (.sl 5) (.l 5 (l : List Int)) (.slice A l.length c) :=
 lr_of (τ := tau) (T := TT) (e := 5) (te := ⟨[.int .u8], .scal⟩) rfl (fun k => safe0 k) (rows := (l : List Int)) hc (by decide) (fun j hj => by
  replace hj : j < l.length := hj
  obtain ⟨ad, cs, e1, _, hK, hc0⟩ := Kd.C_get h (0 : Int) (j : Int) (Int.natCast_nonneg j) (Int.ofNat_lt.2 hj)
  have e0 : List.getD l ((j : Int)).toNat (0 : Int) = l[j] := by rw [Int.toNat_natCast, List.getD_eq_getElem?_getD, List.getElem?_eq_getElem hj]; rfl
  rw [e0] at hK
  obtain rfl := hK
  refine ⟨ad, _, e1, rfl, fun o u hu => hc0 o u hu, rfl, fun o lf lt v h1 h2 h3 => ?_⟩
  rcases o with _ | o
  · exact lr_pt h1 h2 h3 (.int _ _)
  · simp at h3)
theorem laws_FnProg.walk (P : laws_FnProg.Pure) (A0 : Option Addr) (c0 : Nat) (l0 : (List Int)) (A1 : Option Addr) (c1 : Nat) (l1 : (List Int)) (w : World) (hr0 : Kd.C (Kd.int .u8) w A0 l0.length l0) (hc0 : l0.length ≤ c0) (w0 : (l0.length ≤ 9223372036854775807 ∧ ∀ y ∈ l0, (Lit.int .u8 y).wf = true)) (hr1 : Kd.C (Kd.int .u8) w A1 l1.length l1) (hc1 : l1.length ≤ c1) (w1 : (l1.length ≤ 9223372036854775807 ∧ ∀ y ∈ l1, (Lit.int .u8 y).wf = true)) (hg : TT.gl w (Am.Safe eta0 (⟨[], []⟩ : Mem tau))) :
 Calls Tryd.prog 5 #[.slice A0 l0.length c0, .slice A1 l1.length c1] w fun e w' => e = .returned (.bool true) ∧ Below w.heap.size w w' := by
 obtain ⟨k, h⟩ := P l0 l1 w0 w1
 have hh : c_5 [.sl 5 (l0 : List Int), .sl 5 (l1 : List Int)] ⟨[], []⟩ isTrue = some () := callX_of (p := fun n => laws_FnProg.f n l0 l1) (n := k) h (isTrue_true _)
 obtain ⟨av, m1, hk, told⟩ := okc_5 _ _ _ hh
 exact law_calls hg told (isTrue_some hk) (vrs_cons (VR.sl _ _ _ (lr5 hr0 hc0)) (vrs_cons (VR.sl _ _ _ (lr5 hr1 hc1)) (vrs_nil)))
end Go.Proofs.YtlpgpckggnimhaaDoor.PFnProg