/- The machine's texts of FnExactProgRead (the law's walk). Conditions: none. -/
import Derived.Test.YtlpgpckggnimhaaDoorPFnExactProgReadx1
import Derived.Test.YtlpgpckggnimhaaDoorAm40
import Derived.Test.YtlpgpckggnimhaaDoorSWFnExactProgRead
set_option linter.unusedVariables false
set_option maxRecDepth 100000
namespace Go.Proofs.YtlpgpckggnimhaaDoor.PFnExactProgRead
open Go.RowKit Go.Proofs.YtlpgpckggnimhaaDoorW.PrintWords Go.Proofs.YtlpgpckggnimhaaDoorW.PrintLast Go.Proofs.YtlpgpckggnimhaaDoorW.PrintMore
open Go Go.Proofs Am
def laws_FnExactProgRead.Pure : Prop := ∀ (a0 : ByteArray), ∃ k, laws_FnExactProgRead.f k a0 = some true
theorem lr_pt {w : World} {lf lf' : Lf tau} {lt lt' : LT} {v v' : Value} (h1 : some lf' = some lf) (h2 : some lt' = some lt) (h3 : some v' = some v) (h : LR TT (Am.Safe eta0 (⟨[], []⟩ : Mem tau)) w lt' lf' v') : LR TT (Am.Safe eta0 (⟨[], []⟩ : Mem tau)) w lt lf v := by cases h1; cases h2; cases h3; exact h
theorem laws_FnExactProgRead.walk (P : laws_FnExactProgRead.Pure) (a0 : ByteArray) (w : World) (hg : TT.gl w (Am.Safe eta0 (⟨[], []⟩ : Mem tau))) :
 Calls Tryd.prog 3 #[.string a0] w fun e w' => e = .returned (.bool true) ∧ Below w.heap.size w w' := by
 obtain ⟨k, h⟩ := P a0 
 have hh : c_3 [.str a0] ⟨[], []⟩ isTrue = some () := callX_of (p := fun n => laws_FnExactProgRead.f n a0) (n := k) h (isTrue_true _)
 obtain ⟨av, m1, hk, told⟩ := okc_3 _ _ _ hh
 exact law_calls hg told (isTrue_some hk) (vrs_cons (.str _) (vrs_nil))
end Go.Proofs.YtlpgpckggnimhaaDoor.PFnExactProgRead