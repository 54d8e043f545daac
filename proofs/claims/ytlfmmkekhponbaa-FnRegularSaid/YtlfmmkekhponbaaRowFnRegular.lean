/- This text proves the given statement FnRegular: the law answers true for every input, and its arguments read behind the call as before; no condition. -/
import Derived.Test.YtlfmmkekhponbaaRows
import Derived.ProofKit
import Derived.OpenShut
import Derived.JoinedCond
import Derived.Test.YtlfmmkekhponbaaSatFnRegular
import Derived.Test.YtlfmmkekhponbaaThFnRegular
set_option linter.unusedVariables false
set_option linter.unusedSimpArgs false
namespace Go.Proofs.Ytlfmmkekhponbaa.lawFnRegular
open Go.ChangeShapes Go.WideShapes Go.ChangeAt Go.RowKit
theorem own : ownKnob Try.prog.godebug = none := by kernel_rfl
theorem laidOut : laidOutB Try.prog = true := by kernel_rfl
abbrev T0 : Go.Rx.Ty := (.slice 5 (.int .u8))
theorem law (x0 : Go.Rx.Ty.den T0) (h0 : Go.Rx.Rng T0 x0) : ∃ N, Go.Rx.Px.laws_FnRegular N x0 = some (true, ()) := Go.Rx.Px.laws_FnRegular_law x0 h0
set_option maxRecDepth 100000 in
theorem lifted (os : Os) (started : os.Started) (H : Type) (enc : TypeId × Value → H) :
    ReturnsInHanded {} Try.checked os 4 .any (Rows.fnRegularSpec.pre6 enc Try.prog Try.f4 Rows.fnRegularRow.domain false) (Rows.fnRegularSpec.post enc Try.prog Try.f4 false true false false) := by
  refine returnsInHanded_of_change (C := Try.checked) own started (by kernel_rfl) Try.func4
    (ChangeSpec.witness6 (enc := enc) (C := Try.checked) false ⟨#[], #[.slice none 0 0], []⟩ 8 (by kernel_rfl) (by kernel_rfl) (by kernel_rfl) (by kernel_rfl)) ?_
  intro W base args ds gs before hval0 hW hcnd _
  have hD : Go.Rx.Laid.D Try.prog W (fun _ k => k < W.heap.size) := trivial
  have hval : ∀ (j : Nat) t v, Try.f4.params[j]? = some t → args[j]? = some v → Value.okWide Try.prog W .any base t v := hval0
  have hW' := hW
  obtain ⟨p, q, hA0, hV, rfl, hfz, hnd⟩ := hW
  have hA : DataW.TrodAll enc Try.prog W 0 (fun _ => true) true Try.f4.params.toList args.toList ds p := hA0
  rw [Try.params4] at hA hval
  obtain ⟨v0, vs0, d0, ds0, p0, q0, hargs0, rfl, rfl, h0, r0⟩ := trodAll_cons hA
  obtain ⟨rfl, rfl, rfl⟩ := trodAll_nil r0
  obtain rfl : args = #[v0] := by cases args; simp_all
  obtain ⟨rfl, rfl⟩ := trodVars_none hV
  have hlt0 : ∀ x ∈ p0, x.block < W.heap.size := fun x hx => by simpa using hW'.lt x (by simp [hx])
  obtain ⟨x0, g0, hv0, hh0, hr0⟩ := Go.Rx.arg_open (C := Go.Rx.ctx RsFnRegular.tab []) (ty := T0) (RsFnRegular.tabs []) (by kernel_rfl) (hval 0 22 v0 rfl rfl) h0
  obtain ⟨N, hF⟩ := law x0 hr0
  refine (Go.Rx.sat_calls (RsFnRegular.s4 N) (xs := (x0, ())) (vs := [v0]) ⟨g0, [], by rw [hv0], hh0, rfl⟩ hD hF).mono fun e W' ⟨v, g', he, hv, hfr, _⟩ => ?_
  obtain rfl : v = .bool true := hv
  subst he
  have hb := hfr.below
  refine ⟨_, rfl, _, _, _, [] ++ [], p0 ++ [], [], hW', ?_, ?_, rfl, hb.frame _, fun h => by cases h⟩
  · exact (trodAll_cons_mk (shut_bool Try.underlying4 _) trodAll_mk0)
  · exact (trodAll_cons_mk (Below.trod laidOut (by kernel_rfl) (of_decide_eq_true (by kernel_rfl)) h0 hb hlt0) (trodAll_mk0))
theorem proved : Rows.FnRegularSaid :=
  OpenClaim.holds_of_wide 4 Try.f4 rfl rfl rfl rfl rfl rfl rfl ⟨rfl, rfl, rfl, rfl, rfl⟩ rfl rfl rfl rfl rfl (by kernel_rfl) Try.func4 (by kernel_rfl)
    (of_decide_eq_true (by kernel_rfl)) (by unfold Func.isWrapper; first | (rw [if_pos (by decide +kernel)]; kernel_rfl) | (rw [if_neg (by decide +kernel)]; exact ⟨rfl, rfl⟩))
    (fun os started H enc _ => lifted os started H enc)
end Go.Proofs.Ytlfmmkekhponbaa.lawFnRegular
