/- The machine's texts of FnExactProgText (the law's walk). Conditions: none. -/
import Derived.Test.YtlpgpckggnimhaaDoorPFnExactProgTextx2
import Derived.Test.YtlpgpckggnimhaaDoorAm40
import Derived.Test.YtlpgpckggnimhaaDoorSWFnExactProgText
set_option linter.unusedVariables false
set_option maxRecDepth 100000
namespace Go.Proofs.YtlpgpckggnimhaaDoor.PFnExactProgText
open Go.RowKit Go.Proofs.YtlpgpckggnimhaaDoorW.PrintWords Go.Proofs.YtlpgpckggnimhaaDoorW.PrintLast Go.Proofs.YtlpgpckggnimhaaDoorW.PrintMore
open Go Go.Proofs Am
def k93 : Kd S93 := Kd.iso (Kd.pair (Kd.int .i64) (Kd.pair (Kd.int .i64) (Kd.pair (Kd.int .i64) (Kd.int .i64)))) (fun x : S93 => (x.f0, x.f1, x.f2, x.f3))
theorem k93_open {w : World} {x : S93} {cs : List Value} (h : k93.K w x cs) : cs = [.int .i64 x.f0, .int .i64 x.f1, .int .i64 x.f2, .int .i64 x.f3] := by
  obtain ⟨_, _, rfl, rfl, ⟨_, _, rfl, rfl, ⟨_, _, rfl, rfl, rfl⟩⟩⟩ := h
  exact rfl
def wf93 (x : S93) : Prop := (Lit.int .i64 (x.f0)).wf = true ∧ (Lit.int .i64 (x.f1)).wf = true ∧ (Lit.int .i64 (x.f2)).wf = true ∧ (Lit.int .i64 (x.f3)).wf = true
def laws_FnExactProgText.Pure : Prop := ∀ (l0 : (List S93)), (l0.length ≤ 9223372036854775807 ∧ ∀ y ∈ l0, wf93 y) → ∃ k, laws_FnExactProgText.f k l0 = some true
theorem split93_th (cs : List Value) (h : cs.length = 4) : cs = (cs.drop 0).take 1 ++ ((cs.drop 1).take 1 ++ ((cs.drop 2).take 1 ++ ((cs.drop 3).take 1))) := by
  match cs, h with
  | [c0, c1, c2, c3], _ => rfl
theorem opens93 : YtlpgpckggnimhaaDoorTh.Opens Tryd.prog 93 k93 wf93 := by
  intro H enc w fuel cs x h
  obtain ⟨xs, n, _, _, hl, hlen, hf⟩ := DataW.trod_struct Tryd.underlying93 h
  have hl2 : cs.length = 4 := hl.trans (by kernel_rfl)
  clear h hl
  have h0 : DataW.trod enc Tryd.prog w 0 (fun _ => true) true n 3 ((cs.drop 0).take (Tryd.prog.cellsOf 3)) = xs[0]? := hf 0 _ rfl
  rw [show Tryd.prog.cellsOf 3 = 1 from by kernel_rfl] at h0
  obtain ⟨y0, hy0⟩ := Option.isSome_iff_exists.1 (show (xs[0]?).isSome from by simp [hlen])
  rw [hy0] at h0
  obtain ⟨a0, ka0, wa0⟩ := (YtlpgpckggnimhaaDoorTh.opens_int Tryd.underlying3) enc w n _ _ h0
  have h1 : DataW.trod enc Tryd.prog w 0 (fun _ => true) true n 3 ((cs.drop 1).take (Tryd.prog.cellsOf 3)) = xs[1]? := hf 1 _ rfl
  rw [show Tryd.prog.cellsOf 3 = 1 from by kernel_rfl] at h1
  obtain ⟨y1, hy1⟩ := Option.isSome_iff_exists.1 (show (xs[1]?).isSome from by simp [hlen])
  rw [hy1] at h1
  obtain ⟨a1, ka1, wa1⟩ := (YtlpgpckggnimhaaDoorTh.opens_int Tryd.underlying3) enc w n _ _ h1
  have h2 : DataW.trod enc Tryd.prog w 0 (fun _ => true) true n 3 ((cs.drop 2).take (Tryd.prog.cellsOf 3)) = xs[2]? := hf 2 _ rfl
  rw [show Tryd.prog.cellsOf 3 = 1 from by kernel_rfl] at h2
  obtain ⟨y2, hy2⟩ := Option.isSome_iff_exists.1 (show (xs[2]?).isSome from by simp [hlen])
  rw [hy2] at h2
  obtain ⟨a2, ka2, wa2⟩ := (YtlpgpckggnimhaaDoorTh.opens_int Tryd.underlying3) enc w n _ _ h2
  have h3 : DataW.trod enc Tryd.prog w 0 (fun _ => true) true n 3 ((cs.drop 3).take (Tryd.prog.cellsOf 3)) = xs[3]? := hf 3 _ rfl
  rw [show Tryd.prog.cellsOf 3 = 1 from by kernel_rfl] at h3
  obtain ⟨y3, hy3⟩ := Option.isSome_iff_exists.1 (show (xs[3]?).isSome from by simp [hlen])
  rw [hy3] at h3
  obtain ⟨a3, ka3, wa3⟩ := (YtlpgpckggnimhaaDoorTh.opens_int Tryd.underlying3) enc w n _ _ h3
  clear hf
  refine ⟨⟨a0, a1, a2, a3⟩, ?_, ⟨wa0, wa1, wa2, wa3⟩⟩
  have e_ : cs = (cs.drop 0).take 1 ++ ((cs.drop 1).take 1 ++ ((cs.drop 2).take 1 ++ ((cs.drop 3).take 1))) := by
    exact split93_th cs hl2
  rw [e_]
  exact ⟨_, _, rfl, ka0, ⟨_, _, rfl, ka1, ⟨_, _, rfl, ka2, ka3⟩⟩⟩
theorem lr_pt {w : World} {lf lf' : Lf tau} {lt lt' : LT} {v v' : Value} (h1 : some lf' = some lf) (h2 : some lt' = some lt) (h3 : some v' = some v) (h : LR TT (Am.Safe eta0 (⟨[], []⟩ : Mem tau)) w lt' lf' v') : LR TT (Am.Safe eta0 (⟨[], []⟩ : Mem tau)) w lt lf v := by cases h1; cases h2; cases h3; exact h
theorem lr93 {w : World} {A : Option Addr} {c : Nat} {l : List S93} (h : Kd.C k93 w A l.length l) (hc : l.length ≤ c) : LR TT (Am.Safe eta0 (⟨[], []⟩ : Mem tau)) w (.sl 93) (.l 93 (l : List S93)) (.slice A l.length c) :=
 lr_of (τ := tau) (T := TT) (e := 93) (te := ⟨[.int .i64, .int .i64, .int .i64, .int .i64], .st [(0, 3), (1, 3), (2, 3), (3, 3)]⟩) rfl (fun k => safe0 k) (rows := (l : List S93)) hc (by decide) (fun j hj => by
  replace hj : j < l.length := hj
  obtain ⟨ad, cs, e1, _, hK, hc0⟩ := Kd.C_get h z93 (j : Int) (Int.natCast_nonneg j) (Int.ofNat_lt.2 hj)
  have e0 : List.getD l ((j : Int)).toNat z93 = l[j] := by rw [Int.toNat_natCast, List.getD_eq_getElem?_getD, List.getElem?_eq_getElem hj]; rfl
  rw [e0] at hK
  obtain rfl := k93_open hK
  refine ⟨ad, _, e1, rfl, fun o u hu => hc0 o u hu, rfl, fun o lf lt v h1 h2 h3 => ?_⟩
  rcases o with _ | _ | _ | _ | o
  · exact lr_pt h1 h2 h3 (.int _ _)
  · exact lr_pt h1 h2 h3 (.int _ _)
  · exact lr_pt h1 h2 h3 (.int _ _)
  · exact lr_pt h1 h2 h3 (.int _ _)
  · simp at h3)
theorem laws_FnExactProgText.walk (P : laws_FnExactProgText.Pure) (A0 : Option Addr) (c0 : Nat) (l0 : (List S93)) (w : World) (hr0 : Kd.C k93 w A0 l0.length l0) (hc0 : l0.length ≤ c0) (w0 : (l0.length ≤ 9223372036854775807 ∧ ∀ y ∈ l0, wf93 y)) (hg : TT.gl w (Am.Safe eta0 (⟨[], []⟩ : Mem tau))) :
 Calls Tryd.prog 8 #[.slice A0 l0.length c0] w fun e w' => e = .returned (.bool true) ∧ Below w.heap.size w w' := by
 obtain ⟨k, h⟩ := P l0 w0
 have hh : c_8 [.sl 93 (l0 : List S93)] ⟨[], []⟩ isTrue = some () := callX_of (p := fun n => laws_FnExactProgText.f n l0) (n := k) h (isTrue_true _)
 obtain ⟨av, m1, hk, told⟩ := okc_8 _ _ _ hh
 exact law_calls hg told (isTrue_some hk) (vrs_cons (VR.sl _ _ _ (lr93 hr0 hc0)) (vrs_nil))
end Go.Proofs.YtlpgpckggnimhaaDoor.PFnExactProgText