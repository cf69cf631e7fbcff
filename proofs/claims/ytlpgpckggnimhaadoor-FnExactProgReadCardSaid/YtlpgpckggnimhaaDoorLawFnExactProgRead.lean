-- Laid by this session's program out of the translation (lawts.py).
import Derived.Test.YtlpgpckggnimhaaDoorRows
import Derived.Test.YtlpgpckggnimhaaDoorPFnExactProgReadx2
import Derived.Test.YtlpgpckggnimhaaDoorPureFnExactProgRead
import Derived.WalkKit
import Derived.ProofKit
import Derived.OpenShut
import Derived.ShutString
import Derived.ChangeOld
import Derived.Below
import Derived.SizedLaws
import Derived.Test.YtlpgpckggnimhaaDoorSWFnExactProgRead
import Derived.Carry
import Derived.WideShapes
import Derived.Test.YtlpgpckggnimhaaDoorCards
import Derived.Test.YtlpgpckggnimhaaDoorTie
import Derived.LaidMore
import Derived.Lay
import Derived.SevenTiedAt
import Derived.Stop.Joined
import Derived.Deep.DeepHandedRow
import Derived.Lib.LaidTab
import Derived.Stop.LaidErr
namespace Go.Proofs.YtlpgpckggnimhaaDoor.fnExactProgRead
open Go.ChangeShapes Go.WideShapes Go.ChangeAt Go.RowKit Go.Proofs.YtlpgpckggnimhaaDoor.PFnExactProgRead Go.Proofs.YtlpgpckggnimhaaDoorW.PrintWords
open Go.ChangeMaps (open_string shut_string)
set_option linter.unusedVariables false
theorem own : ownKnob Tryd.prog.godebug = none := by kernel_rfl
theorem laidOut : laidOutB Tryd.prog = true := by kernel_rfl
theorem tab {W : World} (hL : laidMetH Tryd.prog Rows.fnExactProgReadRow.laid W) : Lib.TabIs Tryd.prog W powName .u64 Lib.pow10Tab := by
  rw [MakeChecks.laidMetH_plain _ _ _ (by kernel_rfl)] at hL
  have h2 : laidMet Tryd.prog ((powName, Lib.tabData .u64 Lib.pow10Tab) :: _) W := (laidMet.tail (laidMet.tail hL))
  exact Lib.tabIs_of_head (g := 1) (t := 130) (e := 119) (n := 20) (by kernel_rfl) (by kernel_rfl) Tryd.underlying130 Tryd.underlying119 (by kernel_rfl) (by kernel_rfl) h2
theorem glo {W : World} (hL : laidMetH Tryd.prog Rows.fnExactProgReadRow.laid W) (hsh : W.ShapedOpen Tryd.prog) : TT.gl W (Am.Safe Am.eta0 (⟨[], []⟩ : Am.Mem tau)) := by
  obtain ⟨m, hm⟩ : ∃ m, W.cell? ⟨0, 0, none⟩ = some (.int .i64 m) := Tryd.laysM146.s1_3 W hsh
  have hn : Tryd.prog.globalNamed powName = some 1 := by kernel_rfl
  exact ⟨⟨Am.safe0 _, Am.cell_lt hm, m, hm⟩, Am.safe0 _, Am.tab_lt hn (tab hL), hn, tab hL⟩
noncomputable def w0 (os : Os) : World := World.laidAll Tryd.prog os Rows.fnExactProgReadRow.laid
theorem witness (os : Os) {H : Type} (enc : TypeId × Value → H) : ∃ (w : World) (tape : Tape) (i : Input), w.os = os ∧ (w.forCall tape i).Shaped Tryd.checked.prog ∧ i.vars = [] ∧ Input.okWide Tryd.checked.prog (w.forCall tape i) .any w.heap.size 3 i ∧
    (OpenSpec.ofChange Rows.fnExactProgReadSpec).preRow enc Tryd.checked.prog Tryd.f3 Rows.fnExactProgReadRow.domain false Rows.fnExactProgReadRow.laid (w.forCall tape i).memory i.args ∧ ({} : Assume).holds Tryd.checked.prog (lone (Frame.enter Tryd.checked.prog 3 i.args .normal) [] (w.forCall tape i)) :=
  ChangeSpec.witness_shaped (enc := enc) (C := Tryd.checked) (os := os) (fn := Tryd.f3) (s := Rows.fnExactProgReadSpec) (conds := Rows.fnExactProgReadRow.domain) (apart := false) (X := fun w _ => laidMetH Tryd.prog Rows.fnExactProgReadRow.laid w) false (w0 os) #[.string ByteArray.empty] 8 (World.laidAll_os _ _ _)
    (World.shaped_of_ZipB (by kernel_rfl) (by kernel_rfl)) (by kernel_rfl) (by kernel_rfl) (by kernel_rfl)
    (by rw [MakeChecks.laidMetH_plain _ _ _ (by kernel_rfl)]; exact laidMet_laidAll _ (by kernel_rfl) (by kernel_rfl))
set_option maxRecDepth 100000 in
theorem lifted (os : Os) (started : os.Started) (H : Type) (enc : TypeId × Value → H) :
  ReturnsInHanded {} Tryd.checked os 3 .any ((OpenSpec.ofChange Rows.fnExactProgReadSpec).preRow enc Tryd.prog Tryd.f3 Rows.fnExactProgReadRow.domain false Rows.fnExactProgReadRow.laid) (Rows.fnExactProgReadSpec.post enc Tryd.prog Tryd.f3 false true false false) := by
  refine returnsInHanded_of_row (C := Tryd.checked) (s := OpenSpec.ofChange Rows.fnExactProgReadSpec) (F := fun _ _ _ => 0) own started (by kernel_rfl) Tryd.func3 (witness os enc) ?_
  intro W base args ds gs before hval0 hW hcnd _ hsz0 hL hsh _
  have hval : ∀ (j : Nat) t v, Tryd.f3.params[j]? = some t → args[j]? = some v → Value.okWide Tryd.prog W .any base t v := hval0
  have hW' := hW
  obtain ⟨p, q, hA0, hV, rfl, hfz, hnd⟩ := hW
  have hA : DataW.TrodAll enc Tryd.prog W 0 (fun _ => true) true Tryd.f3.params.toList args.toList ds p := hA0
  rw [Tryd.params3] at hA hval
  obtain ⟨v0, vs0, d0, ds0, p0, q0, hargs, rfl, rfl, h0, r0⟩ := trodAll_cons hA
  obtain ⟨rfl, rfl, rfl⟩ := trodAll_nil r0
  obtain rfl : args = #[v0] := by cases args; simp_all
  obtain ⟨rfl, rfl⟩ := trodVars_none hV
  have k0 := h0
  have lt0 : ∀ x ∈ p0, x.block < W.heap.size := by obtain ⟨m, hm⟩ := k0; exact DataW.trod_lt m _ _ _ hm
  obtain ⟨a0, rfl⟩ := okWide_string Tryd.underlying9 (hval 0 9 v0 rfl rfl)
  clear hA0 hval0 hsz0
  refine (laws_FnExactProgRead.walk Pure.FnExactProgRead a0 W (glo hL hsh)).mono fun e W' ⟨he, bel⟩ => ?_
  subst he
  exact ⟨_, rfl, _, _, _, [], _, [], hW', trodAll_mk1 (shut_bool Tryd.underlying4 _), (trodAll_cons_mk (Below.trod laidOut (by kernel_rfl) (of_decide_eq_true (by kernel_rfl)) k0 bel lt0) trodAll_mk0), rfl, bel.frame _, fun h => by cases h⟩
theorem over1 : Tryd.pinned.checked.prog.funcNamed Rows.fnExactProgReadRow.func = some 3 := by kernel_rfl
theorem and_intro {a b : Bool} (h1 : a = true) (h2 : b = true) : (a && b) = true := by rw [h1, h2]; rfl
set_option maxHeartbeats 40000000 in
theorem over2 : joinedFacts Tryd.pinned.checked.prog 3 Tryd.f3 Rows.fnExactProgReadSpec Rows.fnExactProgReadRow = true := by
  unfold joinedFacts
  repeat' with_reducible refine and_intro ?_ ?_
  all_goals decide +kernel
theorem over3 : Tryd.f3.isInstance Tryd.pinned.checked.prog Rows.fnExactProgReadRow.origin Rows.fnExactProgReadRow.targs := of_decide_eq_true (by kernel_rfl)
theorem over4 : Tryd.f3.isWrapper Tryd.pinned.checked.prog Rows.fnExactProgReadRow.wrapper Rows.fnExactProgReadRow.mainSum := by unfold Func.isWrapper; first | (rw [if_pos (by decide +kernel)]; kernel_rfl) | (rw [if_neg (by decide +kernel)]; exact ⟨rfl, rfl⟩)
theorem over : Rows.fnExactProgReadRow.holds Tryd.pinned (OpenSpec.ofChange Rows.fnExactProgReadSpec) :=
  OpenClaim.holds_of_wide 3 Tryd.f3 rfl rfl rfl rfl rfl rfl rfl ⟨rfl, rfl, rfl, rfl, rfl⟩ rfl rfl rfl rfl rfl over1 Tryd.func3 over2 over3 over4
    (fun os started H enc _ => by rw [OpenClaim.pre_eq_preRow]; exact lifted os started H enc)
theorem card : Rows.FnExactProgReadCardSaid :=
  Claim7.holds_tied_plain_at .later [] [.data, .data, .data, .data, .pinned] true (true, "66da82c8cf7cfc6377796aebfd2f0ad94072b42c4700368d289ab4118988a076") false over (fun _ h => by cases h) (by kernel_rfl) (fun _ h => by cases h) fnExactProgRead_row_tie rfl ⟨rfl, rfl⟩ (by kernel_rfl) rfl
    (fun f fn hf hfn => by
      obtain rfl : f = 3 := Option.some.inj (over1.symm.trans hf) |>.symm
      obtain rfl : fn = Tryd.f3 := (Option.some.inj (Tryd.func3.symm.trans hfn)).symm
      exact ⟨by kernel_rfl, fun j t ht => by
        rw [Tryd.params3] at ht
        have hm : t ∈ [9] := by simpa using Array.mem_of_getElem? ht
        have hall : ([9].all fun u => !Tryd.prog.wantsStandIn u) = true := by kernel_rfl
        exact (show Tryd.prog.wantsStandIn t = false by simpa using List.all_eq_true.1 hall t hm)⟩)
    (by kernel_rfl)
#print axioms card
end Go.Proofs.YtlpgpckggnimhaaDoor.fnExactProgRead
namespace Go.Proofs.YtlpgpckggnimhaaDoor
/-- The tied card, under a short name, for the claim. -/
theorem fnExactProgRead_holds : Rows.FnExactProgReadCardSaid := fnExactProgRead.card
end Go.Proofs.YtlpgpckggnimhaaDoor