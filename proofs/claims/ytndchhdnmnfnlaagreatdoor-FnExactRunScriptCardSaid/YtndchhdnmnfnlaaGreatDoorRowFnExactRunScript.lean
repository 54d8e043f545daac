/- This text proves the given statement FnExactRunScript: the law answers true for every input, and its arguments read behind the call as before; no condition. -/
import Derived.Test.YtndchhdnmnfnlaaGreatDoorRows
import Derived.Test.YtndchhdnmnfnlaaGreatDoorTie
import Derived.Test.YtndchhdnmnfnlaaGreatDoorCards
import Derived.SevenTiedAt
import Derived.LaidMore
import Derived.Stop.Joined
import Derived.MakeChecks
import Derived.Shelf.Vars
import Derived.LaidLaws
import Derived.Lib.LaidU8
import Derived.ProofKit
import Derived.OpenShut
import Derived.JoinedCond
import Derived.Test.YtndchhdnmnfnlaaGreatDoorSatFnExactRunScript
import Derived.Test.YtndchhdnmnfnlaaGreatDoorThFnExactRunScript
set_option linter.unusedVariables false
set_option linter.unusedSimpArgs false
namespace Go.Proofs.YtndchhdnmnfnlaaGreatDoor.lawFnExactRunScript
open Go.ChangeShapes Go.WideShapes Go.ChangeAt Go.RowKit
theorem own : ownKnob Tryz.prog.godebug = none := by kernel_rfl
theorem laidOut : laidOutB Tryz.prog = true := by kernel_rfl
abbrev T0 : Go.Rx.Ty := (.prod (.prod (.prod (.slice 3 (.int .i64)) (.prod (.slice 3 (.int .i64)) (.prod (.slice 3 (.int .i64)) (.slice 3 (.int .i64))))) (.prod (.slice 3 (.int .i64)) (.int .i64))) (.prod .str (.prod .str (.int .i64))))
abbrev T1 : Go.Rx.Ty := .str
theorem law (x0 : Go.Rx.Ty.den T0) (x1 : Go.Rx.Ty.den T1) (h0 : Go.Rx.Rng T0 x0) (h1 : Go.Rx.Rng T1 x1) : ∃ N, Go.Rx.Px.laws_FnExactRunScript N x0 x1 = some (true, ()) := Go.Rx.Px.laws_FnExactRunScript_law x0 x1 h0 h1
noncomputable def wit0 (os : Os) : World :=
  { World.doorLaid Tryz.prog 400 os with heap := (World.doorLaid Tryz.prog 400 os).heap.modify 3 fun | .cells _ t fz => .cells (Lib.firstTab.map fun z => Value.int .u8 z).toArray t fz | o => o }
theorem door_met (os : Os) (args : Array Value) : laidMetH Tryz.prog Rows.fnExactRunScriptRow.laid ((wit0 os).forCall (fun _ _ => 0) ⟨#[], args, []⟩).memory :=
  laidMetH_of_parts3 (fuel := 8) (laidMet_of_run' 8 (by kernel_rfl) (by kernel_rfl)) (by kernel_rfl) (by kernel_rfl)
theorem tab_of {W : World} (h : laidMetH Tryz.prog Rows.fnExactRunScriptRow.laid W) : Lib.TabIs Tryz.prog W "internal/strconv.uint64pow10" .u64 Lib.pow10Tab := by
  rw [MakeChecks.laidMetH_plain _ _ _ (by kernel_rfl)] at h
  exact Lib.tabIs_of_head (g := 5) (t := 269) (e := 98) (n := 20) (by kernel_rfl) (by kernel_rfl) Tryz.underlying269 Tryz.underlying98 (by kernel_rfl) (by kernel_rfl) (Go.Rx.ZbJ (Go.Rx.ZbJ (h)))
theorem err_of {W : World} (h : laidMetH Tryz.prog Rows.fnExactRunScriptRow.laid W) : ∀ ge, Tryz.prog.globalNamed "strconv.ErrSyntax" = some ge → ∃ ev, W.cell? ⟨ge, 0, none⟩ = some ev ∧ (ev = .nilIface ∨ ∃ te pe, ev = .iface te pe) := by
  rw [MakeChecks.laidMetH_plain _ _ _ (by kernel_rfl)] at h
  exact Go.Rx.Zj8 (g := 1) (t := 157) (by kernel_rfl) (by kernel_rfl) Tryz.underlying157 (Go.Rx.ZbJ (Go.Rx.ZbJ (Go.Rx.ZbJ (Go.Rx.ZbJ (Go.Rx.ZbJ (h))))))
theorem max_of {W : World} (h : W.ShapedOpen Tryz.prog) : ∃ m, W.cell? ⟨0, 0, none⟩ = some (.int .i64 m) :=
  Go.Proofs.cell_of_shapedOpen_int (zero := #[.int .i64 0]) (t := 3) h (of_decide_eq_true (by kernel_rfl)) (by kernel_rfl) rfl (by kernel_rfl) (by kernel_rfl) Tryz.underlying3
set_option maxRecDepth 100000 in
theorem lifted (os : Os) (started : os.Started) (H : Type) (enc : TypeId × Value → H) :
    ReturnsInHanded {} Tryz.checked os 5 .any (fun w args => (Rows.fnExactRunScriptSpec.pre enc Tryz.prog Tryz.f5 [] false w args ∧ laidMetH Tryz.prog Rows.fnExactRunScriptRow.laid w) ∧ sizedMet enc Tryz.prog Tryz.f5 (OpenSpec.ofChange Rows.fnExactRunScriptSpec) false w args) (Rows.fnExactRunScriptSpec.post enc Tryz.prog Tryz.f5 false true false false) := by
  refine Go.Rx.Zjl (C := Tryz.checked) (X := fun w _ => laidMetH Tryz.prog Rows.fnExactRunScriptRow.laid w) (fun _ _ _ hh h => h.of_heap hh) own started (by kernel_rfl) Tryz.func5
    (ChangeSpec.witness_shaped (enc := enc) (C := Tryz.checked) (os := os) (X := fun w _ => laidMetH Tryz.prog Rows.fnExactRunScriptRow.laid w) false (wit0 os) #[.agg #[.slice none 0 0, .slice none 0 0, .slice none 0 0, .slice none 0 0, .slice none 0 0, .int .i64 0, .string ⟨#[]⟩, .string ⟨#[]⟩, .int .i64 0], .string ⟨#[]⟩] 8 rfl (World.shaped_of_RefB (by kernel_rfl) (by kernel_rfl)) (by kernel_rfl) (by kernel_rfl) (by kernel_rfl) (door_met os _)) ?_
  intro W base args ds gs before hval0 hW hL hsh
  have hD := Go.Rx.ZlM (max_of hsh) (gt := 5) (by kernel_rfl) (tab_of hL) (err_of hL)
  have hval : ∀ (j : Nat) t v, Tryz.f5.params[j]? = some t → args[j]? = some v → Value.okWide Tryz.prog W .any base t v := hval0
  have hW' := hW
  obtain ⟨p, q, hA0, hV, rfl, hfz, hnd⟩ := hW
  have hA : DataW.TrodAll enc Tryz.prog W 0 (fun _ => true) true Tryz.f5.params.toList args.toList ds p := hA0
  rw [Tryz.params5] at hA hval
  obtain ⟨v0, vs0, d0, ds0, p0, q0, hargs0, rfl, rfl, h0, r0⟩ := trodAll_cons hA
  obtain ⟨v1, vs1, d1, ds1, p1, q1, hargs1, rfl, rfl, h1, r1⟩ := trodAll_cons r0
  obtain ⟨rfl, rfl, rfl⟩ := trodAll_nil r1
  subst hargs1
  obtain rfl : args = #[v0, v1] := by cases args; simp_all
  obtain ⟨rfl, rfl⟩ := trodVars_none hV
  have hlt0 : ∀ x ∈ p0, x.block < W.heap.size := fun x hx => by simpa using hW'.lt x (by simp [hx])
  have hlt1 : ∀ x ∈ p1, x.block < W.heap.size := fun x hx => by simpa using hW'.lt x (by simp [hx])
  obtain ⟨x0, g0, hv0, hh0, hr0⟩ := Go.Rx.ZkT (C := Go.Rx.ctx RsFnExactRunScript.tab []) (ty := T0) (RsFnExactRunScript.tabs []) (by kernel_rfl) (hval 0 42 v0 rfl rfl) h0
  obtain ⟨x1, g1, hv1, hh1, hr1⟩ := Go.Rx.ZkT (C := Go.Rx.ctx RsFnExactRunScript.tab []) (ty := T1) (RsFnExactRunScript.tabs []) (by kernel_rfl) (hval 1 9 v1 rfl rfl) h1
  obtain ⟨N, hF⟩ := law x0 x1 hr0 hr1
  refine (Go.Rx.Zmt (RsFnExactRunScript.s5 N) (xs := (x0, x1, ())) (vs := [v0, v1]) ⟨g0, [v1], by rw [hv0], hh0, ⟨g1, [], by rw [hv1], hh1, rfl⟩⟩ hD hF).mono fun e W' ⟨v, g', he, hv, hfr, _⟩ => ?_
  obtain rfl : v = .bool true := hv
  subst he
  have hb := hfr.below
  refine ⟨_, rfl, _, _, _, [] ++ [], p0 ++ (p1 ++ []), [], hW', ?_, ?_, rfl, hb.frame _, fun h => by cases h⟩
  · exact (trodAll_cons_mk (shut_bool Tryz.underlying4 _) trodAll_mk0)
  · exact (trodAll_cons_mk (Below.trod laidOut (by kernel_rfl) (of_decide_eq_true (by kernel_rfl)) h0 hb hlt0) (trodAll_cons_mk (Below.trod laidOut (by kernel_rfl) (of_decide_eq_true (by kernel_rfl)) h1 hb hlt1) (trodAll_mk0)))
theorem and_i {a b : Bool} (h : a = true) (h2 : b = true) : (a && b) = true := by rw [h, h2]; rfl
set_option maxHeartbeats 8000000 in
theorem closed : joinedFacts Tryz.prog 5 Tryz.f5 Rows.fnExactRunScriptSpec Rows.fnExactRunScriptRow = true := by
  unfold joinedFacts
  repeat' with_reducible refine and_i ?_ ?_
  all_goals as_aux_lemma => kernel_rfl
set_option maxHeartbeats 8000000 in
theorem over : Rows.FnExactRunScriptSaid :=
  OpenClaim.holds_of_wide 5 Tryz.f5 rfl rfl rfl rfl rfl rfl rfl ⟨rfl, rfl, rfl, rfl, rfl⟩ rfl rfl rfl rfl rfl (by as_aux_lemma => kernel_rfl) Tryz.func5 closed
    (of_decide_eq_true (by as_aux_lemma => kernel_rfl)) (by unfold Func.isWrapper; first | (rw [if_pos (by decide +kernel)]; kernel_rfl) | (rw [if_neg (by decide +kernel)]; exact ⟨rfl, rfl⟩))
    (fun os started H enc _ => lifted os started H enc)
set_option maxHeartbeats 8000000 in
theorem proved : Rows.FnExactRunScriptCardSaid :=
  Claim7.holds_tied_plain_at .later [] [.data, .data, .data, .data, .sentinel, .sentinel, .pinned] true (true, "ea61a5b81be57d09c7f978eb051a3e27fea59857098be3691843d86ad11d85d8") true
    over (fun _ h => by cases h) (by as_aux_lemma => kernel_rfl) (fun _ h => by cases h) fnExactRunScript_row_tie rfl ⟨rfl, rfl⟩ (by as_aux_lemma => kernel_rfl) rfl
    (fun f fn hf hfn => by
      obtain rfl : f = 5 := Option.some.inj ((show Tryz.prog.funcNamed "loop.example/g01111/laws.FnExactRunScript" = some 5 by as_aux_lemma => kernel_rfl).symm.trans hf) |>.symm
      obtain rfl : fn = Tryz.f5 := (Option.some.inj (Tryz.func5.symm.trans hfn)).symm
      exact ⟨by as_aux_lemma => kernel_rfl, fun j t ht => by
        rw [Tryz.params5] at ht
        have hm : t ∈ [42, 9] := by simpa using Array.mem_of_getElem? ht
        have hall : ([42, 9].all fun u => !Tryz.prog.wantsStandIn u) = true := by as_aux_lemma => kernel_rfl
        exact (show Tryz.prog.wantsStandIn t = false by simpa using List.all_eq_true.1 hall t hm)⟩)
    (by as_aux_lemma => kernel_rfl)
end Go.Proofs.YtndchhdnmnfnlaaGreatDoor.lawFnExactRunScript
