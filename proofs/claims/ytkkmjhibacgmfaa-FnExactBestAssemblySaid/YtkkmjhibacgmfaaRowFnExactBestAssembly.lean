/- This text proves the given statement FnExactBestAssembly: the law answers true for every input, and its arguments read behind the call as before; no condition. -/
import Derived.Test.YtkkmjhibacgmfaaRows
import Derived.ProofKit
import Derived.OpenShut
import Derived.JoinedCond
import Derived.Test.YtkkmjhibacgmfaaSatFnExactBestAssembly
import Derived.Test.YtkkmjhibacgmfaaThFnExactBestAssembly
set_option linter.unusedVariables false
set_option linter.unusedSimpArgs false
namespace Go.Proofs.Ytkkmjhibacgmfaa.lawFnExactBestAssembly
open Go.ChangeShapes Go.WideShapes Go.ChangeAt Go.RowKit
theorem own : ownKnob Try.prog.godebug = none := by kernel_rfl
theorem laidOut : laidOutB Try.prog = true := by kernel_rfl
abbrev T0 : Go.Rx.Ty := (.slice 3 (.int .i64))
abbrev T1 : Go.Rx.Ty := (.slice 3 (.int .i64))
abbrev T2 : Go.Rx.Ty := (.slice 3 (.int .i64))
theorem law (x0 : Go.Rx.Ty.den T0) (x1 : Go.Rx.Ty.den T1) (x2 : Go.Rx.Ty.den T2) (h0 : Go.Rx.Rng T0 x0) (h1 : Go.Rx.Rng T1 x1) (h2 : Go.Rx.Rng T2 x2) : ∃ N, Go.Rx.Px.laws_FnExactBestAssembly N x0 x1 x2 = some (true, ()) := Go.Rx.Px.laws_FnExactBestAssembly_law x0 x1 x2 h0 h1 h2
set_option maxRecDepth 100000 in
theorem lifted (os : Os) (started : os.Started) (H : Type) (enc : TypeId × Value → H) :
    ReturnsInHanded {} Try.checked os 3 .any (Rows.fnExactBestAssemblySpec.pre6 enc Try.prog Try.f3 Rows.fnExactBestAssemblyRow.domain false) (Rows.fnExactBestAssemblySpec.post enc Try.prog Try.f3 false true false false) := by
  refine returnsInHanded_of_change (C := Try.checked) own started (by kernel_rfl) Try.func3
    (ChangeSpec.witness6 (enc := enc) (C := Try.checked) false ⟨#[], #[.slice none 0 0, .slice none 0 0, .slice none 0 0], []⟩ 8 (by kernel_rfl) (by kernel_rfl) (by kernel_rfl) (by kernel_rfl)) ?_
  intro W base args ds gs before hval0 hW hcnd _
  have hD : Go.Rx.Laid.D Try.prog W (fun _ k => k < W.heap.size) := trivial
  have hval : ∀ (j : Nat) t v, Try.f3.params[j]? = some t → args[j]? = some v → Value.okWide Try.prog W .any base t v := hval0
  have hW' := hW
  obtain ⟨p, q, hA0, hV, rfl, hfz, hnd⟩ := hW
  have hA : DataW.TrodAll enc Try.prog W 0 (fun _ => true) true Try.f3.params.toList args.toList ds p := hA0
  rw [Try.params3] at hA hval
  obtain ⟨v0, vs0, d0, ds0, p0, q0, hargs0, rfl, rfl, h0, r0⟩ := trodAll_cons hA
  obtain ⟨v1, vs1, d1, ds1, p1, q1, hargs1, rfl, rfl, h1, r1⟩ := trodAll_cons r0
  obtain ⟨v2, vs2, d2, ds2, p2, q2, hargs2, rfl, rfl, h2, r2⟩ := trodAll_cons r1
  obtain ⟨rfl, rfl, rfl⟩ := trodAll_nil r2
  subst hargs1
  subst hargs2
  obtain rfl : args = #[v0, v1, v2] := by cases args; simp_all
  obtain ⟨rfl, rfl⟩ := trodVars_none hV
  have hlt0 : ∀ x ∈ p0, x.block < W.heap.size := fun x hx => by simpa using hW'.lt x (by simp [hx])
  have hlt1 : ∀ x ∈ p1, x.block < W.heap.size := fun x hx => by simpa using hW'.lt x (by simp [hx])
  have hlt2 : ∀ x ∈ p2, x.block < W.heap.size := fun x hx => by simpa using hW'.lt x (by simp [hx])
  obtain ⟨x0, g0, hv0, hh0, hr0⟩ := Go.Rx.arg_open (C := Go.Rx.ctx RsFnExactBestAssembly.tab []) (ty := T0) (RsFnExactBestAssembly.tabs []) (by kernel_rfl) (hval 0 22 v0 rfl rfl) h0
  obtain ⟨x1, g1, hv1, hh1, hr1⟩ := Go.Rx.arg_open (C := Go.Rx.ctx RsFnExactBestAssembly.tab []) (ty := T1) (RsFnExactBestAssembly.tabs []) (by kernel_rfl) (hval 1 22 v1 rfl rfl) h1
  obtain ⟨x2, g2, hv2, hh2, hr2⟩ := Go.Rx.arg_open (C := Go.Rx.ctx RsFnExactBestAssembly.tab []) (ty := T2) (RsFnExactBestAssembly.tabs []) (by kernel_rfl) (hval 2 22 v2 rfl rfl) h2
  obtain ⟨N, hF⟩ := law x0 x1 x2 hr0 hr1 hr2
  refine (Go.Rx.sat_calls (RsFnExactBestAssembly.s3 N) (xs := (x0, x1, x2, ())) (vs := [v0, v1, v2]) ⟨g0, [v1, v2], by rw [hv0], hh0, ⟨g1, [v2], by rw [hv1], hh1, ⟨g2, [], by rw [hv2], hh2, rfl⟩⟩⟩ hD hF).mono fun e W' ⟨v, g', he, hv, hfr, _⟩ => ?_
  obtain rfl : v = .bool true := hv
  subst he
  have hb := hfr.below
  refine ⟨_, rfl, _, _, _, [] ++ [], p0 ++ (p1 ++ (p2 ++ [])), [], hW', ?_, ?_, rfl, hb.frame _, fun h => by cases h⟩
  · exact (trodAll_cons_mk (shut_bool Try.underlying4 _) trodAll_mk0)
  · exact (trodAll_cons_mk (Below.trod laidOut (by kernel_rfl) (of_decide_eq_true (by kernel_rfl)) h0 hb hlt0) (trodAll_cons_mk (Below.trod laidOut (by kernel_rfl) (of_decide_eq_true (by kernel_rfl)) h1 hb hlt1) (trodAll_cons_mk (Below.trod laidOut (by kernel_rfl) (of_decide_eq_true (by kernel_rfl)) h2 hb hlt2) (trodAll_mk0))))
theorem proved : Rows.FnExactBestAssemblySaid :=
  OpenClaim.holds_of_wide 3 Try.f3 rfl rfl rfl rfl rfl rfl rfl ⟨rfl, rfl, rfl, rfl, rfl⟩ rfl rfl rfl rfl rfl (by kernel_rfl) Try.func3 (by kernel_rfl)
    (of_decide_eq_true (by kernel_rfl)) (by unfold Func.isWrapper; first | (rw [if_pos (by decide +kernel)]; kernel_rfl) | (rw [if_neg (by decide +kernel)]; exact ⟨rfl, rfl⟩))
    (fun os started H enc _ => lifted os started H enc)
end Go.Proofs.Ytkkmjhibacgmfaa.lawFnExactBestAssembly
