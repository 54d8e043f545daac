/- This text proves that the Go functions behind FnExactStockNow compute the plain functions; no condition. -/
import Derived.Test.YtbjhilklcojdfaaProg
import Derived.Test.YtbjhilklcojdfaaPxFnExactStockNow
set_option linter.unusedVariables false
set_option linter.unusedSimpArgs false
namespace Go.Proofs.Ytbjhilklcojdfaa.RsFnExactStockNow
open Go.Rx
def tab : List (Nat × TI) := [
  (2, ⟨(.int .i64), 0, 8⟩),
  (3, ⟨(.int .i64), 0, 8⟩),
  (4, ⟨.bool, 0, 1⟩),
  (5, ⟨(.int .u8), 0, 1⟩),
  (6, ⟨(.int .u8), 0, 1⟩),
  (7, ⟨(.prod (.int .i64) (.prod (.int .i64) (.prod .bool (.int .u8)))), 4, 24⟩),
  (8, ⟨(.prod (.int .i64) (.prod (.int .i64) (.prod .bool (.int .u8)))), 4, 24⟩),
  (9, ⟨.str, 0, 16⟩),
  (10, ⟨.str, 0, 16⟩),
  (11, ⟨.str, 0, 16⟩),
  (12, ⟨(.int .u64), 0, 8⟩),
  (13, ⟨(.prod .str (.int .u64)), 2, 24⟩),
  (14, ⟨(.prod .str (.int .u64)), 2, 24⟩),
  (20, ⟨.err, 0, 16⟩),
  (21, ⟨(.int .i32), 0, 4⟩),
  (22, ⟨(.slice 3 (.int .i64)), 0, 24⟩),
  (23, ⟨(.prod (.slice 3 (.int .i64)) (.prod (.slice 3 (.int .i64)) (.prod (.slice 3 (.int .i64)) (.slice 3 (.int .i64))))), 4, 96⟩),
  (24, ⟨(.prod (.slice 3 (.int .i64)) (.prod (.slice 3 (.int .i64)) (.prod (.slice 3 (.int .i64)) (.slice 3 (.int .i64))))), 4, 96⟩),
  (25, ⟨(.prod (.prod (.slice 3 (.int .i64)) (.prod (.slice 3 (.int .i64)) (.prod (.slice 3 (.int .i64)) (.slice 3 (.int .i64))))) (.prod (.slice 3 (.int .i64)) (.int .i64))), 3, 128⟩),
  (26, ⟨(.prod (.prod (.slice 3 (.int .i64)) (.prod (.slice 3 (.int .i64)) (.prod (.slice 3 (.int .i64)) (.slice 3 (.int .i64))))) (.prod (.slice 3 (.int .i64)) (.int .i64))), 3, 128⟩),
  (29, ⟨(.prod (.slice 3 (.int .i64)) (.prod (.slice 3 (.int .i64)) (.prod (.slice 3 (.int .i64)) (.slice 3 (.int .i64))))), 4, 96⟩),
  (30, ⟨(.prod (.prod (.slice 3 (.int .i64)) (.prod (.slice 3 (.int .i64)) (.prod (.slice 3 (.int .i64)) (.slice 3 (.int .i64))))) (.prod (.slice 3 (.int .i64)) (.int .i64))), 3, 128⟩),
  (31, ⟨(.prod (.prod (.slice 3 (.int .i64)) (.prod (.slice 3 (.int .i64)) (.prod (.slice 3 (.int .i64)) (.slice 3 (.int .i64))))) (.prod (.slice 3 (.int .i64)) (.int .i64))), 3, 128⟩),
  (44, ⟨(.prod .str .str), 2, 32⟩),
  (45, ⟨(.prod .str .str), 2, 32⟩),
  (48, ⟨(.prod .str .str), 2, 32⟩),
  (72, ⟨(.arr 3 (.int .i64)), 0, 24⟩),
  (84, ⟨(.arr 256 .bool), 0, 256⟩),
  (85, ⟨(.arr 256 .bool), 0, 256⟩),
  (91, ⟨(.int .u64), 0, 8⟩),
  (100, ⟨(.int .u32), 0, 4⟩),
  (101, ⟨(.int .u8), 0, 1⟩),
  (102, ⟨(.int .u8), 0, 1⟩),
  (105, ⟨(.int .i32), 0, 4⟩),
  (106, ⟨(.int .i32), 0, 4⟩)]
theorem tabs : ∀ l, TabOk Go.Proofs.Try.prog (ctx tab l) := tab_all (by kernel_rfl)
noncomputable def S34 (N : Nat) : Go.Rx.Spec := ⟨.none, [(.slice 3 (.int .i64)), (.int .i64)], (.int .i64), 1, .ro, fun _ x => Px.laws_szIntS N x.1 x.2.1⟩
theorem e34 (N : Nat) : evalFn (ctx tab []) N .nil Go.Proofs.Try.f34 .none [(.slice 3 (.int .i64)), (.int .i64)] (.int .i64) 1 .ro = (S34 N).f := by kernel_rfl
theorem s34 (N : Nat) : Sat Go.Proofs.Try.prog 34 (S34 N) := sat_eq (ctx_nil tabs (by kernel_rfl)) Go.Proofs.Try.func34 (by kernel_rfl) (by kernel_rfl) (by decide) (by decide) (e34 N)
noncomputable def S16 (N : Nat) : Go.Rx.Spec := ⟨.none, [(.prod (.slice 3 (.int .i64)) (.prod (.slice 3 (.int .i64)) (.prod (.slice 3 (.int .i64)) (.slice 3 (.int .i64))))), (.int .i64)], (.int .i64), 1, .ro, fun _ x => Px.laws_szCase N x.1 x.2.1⟩
theorem e16 (N : Nat) : evalFn (ctx tab [(34, S34 N)]) N .nil Go.Proofs.Try.f16 .none [(.prod (.slice 3 (.int .i64)) (.prod (.slice 3 (.int .i64)) (.prod (.slice 3 (.int .i64)) (.slice 3 (.int .i64))))), (.int .i64)] (.int .i64) 1 .ro = (S16 N).f := by kernel_rfl
theorem s16 (N : Nat) : Sat Go.Proofs.Try.prog 16 (S16 N) := sat_eq (ctx_cons tabs (ctx_nil tabs (by kernel_rfl)) (s34 N)) Go.Proofs.Try.func16 (by kernel_rfl) (by kernel_rfl) (by decide) (by decide) (e16 N)
noncomputable def S9 (N : Nat) : Go.Rx.Spec := ⟨.none, [(.prod (.prod (.slice 3 (.int .i64)) (.prod (.slice 3 (.int .i64)) (.prod (.slice 3 (.int .i64)) (.slice 3 (.int .i64))))) (.prod (.slice 3 (.int .i64)) (.int .i64))), (.int .i64)], (.int .i64), 1, .ro, fun _ x => Px.laws_szLedger N x.1 x.2.1⟩
theorem e9 (N : Nat) : evalFn (ctx tab [(16, S16 N), (34, S34 N)]) N .nil Go.Proofs.Try.f9 .none [(.prod (.prod (.slice 3 (.int .i64)) (.prod (.slice 3 (.int .i64)) (.prod (.slice 3 (.int .i64)) (.slice 3 (.int .i64))))) (.prod (.slice 3 (.int .i64)) (.int .i64))), (.int .i64)] (.int .i64) 1 .ro = (S9 N).f := by kernel_rfl
theorem s9 (N : Nat) : Sat Go.Proofs.Try.prog 9 (S9 N) := sat_eq (ctx_cons tabs (ctx_cons tabs (ctx_nil tabs (by kernel_rfl)) (s34 N)) (s16 N)) Go.Proofs.Try.func9 (by kernel_rfl) (by kernel_rfl) (by decide) (by decide) (e9 N)
noncomputable def S19 (N : Nat) : Go.Rx.Spec := ⟨.none, [(.slice 3 (.int .i64))], (.slice 3 (.int .i64)), 1, (.own .ro), fun _ x => Px.laws_toIntS N x.1⟩
theorem e19 (N : Nat) : evalFn (ctx tab []) N (.node none .nil (.node none .nil (.node none (.node none .nil (.node (some ⟨22, [(3, .vw 7 [])], [⟨7, false, false, (.own .ro), (.slice 3 (.int .i64))⟩]⟩) (.node (some ⟨22, [(0, .val (.slice 3 (.int .i64))), (3, .vw 7 []), (4, .val (.int .i64))], [⟨7, false, false, (.own .ro), (.slice 3 (.int .i64))⟩]⟩) .nil .nil) .nil)) .nil))) Go.Proofs.Try.f19 .none [(.slice 3 (.int .i64))] (.slice 3 (.int .i64)) 1 (.own .ro) = (S19 N).f := by kernel_rfl
theorem s19 (N : Nat) : Sat Go.Proofs.Try.prog 19 (S19 N) := sat_eq (ctx_nil tabs (by kernel_rfl)) Go.Proofs.Try.func19 (by kernel_rfl) (by kernel_rfl) (by decide) (by decide) (e19 N)
noncomputable def S18 (N : Nat) : Go.Rx.Spec := ⟨.none, [(.prod (.slice 3 (.int .i64)) (.prod (.slice 3 (.int .i64)) (.prod (.slice 3 (.int .i64)) (.slice 3 (.int .i64)))))], (.prod (.slice 3 (.int .i64)) (.prod (.slice 3 (.int .i64)) (.prod (.slice 3 (.int .i64)) (.slice 3 (.int .i64))))), 1, (.pr (.own .ro) (.pr (.own .ro) (.pr (.own .ro) (.own .ro)))), fun _ x => Px.laws_toCase N x.1⟩
theorem e18 (N : Nat) : evalFn (ctx tab [(19, S19 N)]) N .nil Go.Proofs.Try.f18 .none [(.prod (.slice 3 (.int .i64)) (.prod (.slice 3 (.int .i64)) (.prod (.slice 3 (.int .i64)) (.slice 3 (.int .i64)))))] (.prod (.slice 3 (.int .i64)) (.prod (.slice 3 (.int .i64)) (.prod (.slice 3 (.int .i64)) (.slice 3 (.int .i64))))) 1 (.pr (.own .ro) (.pr (.own .ro) (.pr (.own .ro) (.own .ro)))) = (S18 N).f := by kernel_rfl
theorem s18 (N : Nat) : Sat Go.Proofs.Try.prog 18 (S18 N) := sat_eq (ctx_cons tabs (ctx_nil tabs (by kernel_rfl)) (s19 N)) Go.Proofs.Try.func18 (by kernel_rfl) (by kernel_rfl) (by decide) (by decide) (e18 N)
noncomputable def S11 (N : Nat) : Go.Rx.Spec := ⟨.none, [(.prod (.prod (.slice 3 (.int .i64)) (.prod (.slice 3 (.int .i64)) (.prod (.slice 3 (.int .i64)) (.slice 3 (.int .i64))))) (.prod (.slice 3 (.int .i64)) (.int .i64)))], (.prod (.prod (.slice 3 (.int .i64)) (.prod (.slice 3 (.int .i64)) (.prod (.slice 3 (.int .i64)) (.slice 3 (.int .i64))))) (.prod (.slice 3 (.int .i64)) (.int .i64))), 1, (.pr (.pr (.own .ro) (.pr (.own .ro) (.pr (.own .ro) (.own .ro)))) (.pr (.own .ro) .ro)), fun _ x => Px.laws_toLedger N x.1⟩
theorem e11 (N : Nat) : evalFn (ctx tab [(18, S18 N), (19, S19 N)]) N .nil Go.Proofs.Try.f11 .none [(.prod (.prod (.slice 3 (.int .i64)) (.prod (.slice 3 (.int .i64)) (.prod (.slice 3 (.int .i64)) (.slice 3 (.int .i64))))) (.prod (.slice 3 (.int .i64)) (.int .i64)))] (.prod (.prod (.slice 3 (.int .i64)) (.prod (.slice 3 (.int .i64)) (.prod (.slice 3 (.int .i64)) (.slice 3 (.int .i64))))) (.prod (.slice 3 (.int .i64)) (.int .i64))) 1 (.pr (.pr (.own .ro) (.pr (.own .ro) (.pr (.own .ro) (.own .ro)))) (.pr (.own .ro) .ro)) = (S11 N).f := by kernel_rfl
theorem s11 (N : Nat) : Sat Go.Proofs.Try.prog 11 (S11 N) := sat_eq (ctx_cons tabs (ctx_cons tabs (ctx_nil tabs (by kernel_rfl)) (s19 N)) (s18 N)) Go.Proofs.Try.func11 (by kernel_rfl) (by kernel_rfl) (by decide) (by decide) (e11 N)
noncomputable def S22 (N : Nat) : Go.Rx.Spec := ⟨.none, [(.slice 3 (.int .i64)), (.slice 3 (.int .i64))], .bool, 1, .ro, fun _ x => Px.laws_eqIntS N x.1 x.2.1⟩
theorem e22 (N : Nat) : evalFn (ctx tab []) N (.node none .nil (.node none .nil (.node none (.node none .nil (.node (some ⟨26, [], []⟩) (.node (some ⟨26, [(0, .val (.slice 3 (.int .i64))), (1, .val (.slice 3 (.int .i64))), (5, .val (.int .i64))], []⟩) .nil .nil) .nil)) .nil))) Go.Proofs.Try.f22 .none [(.slice 3 (.int .i64)), (.slice 3 (.int .i64))] .bool 1 .ro = (S22 N).f := by kernel_rfl
theorem s22 (N : Nat) : Sat Go.Proofs.Try.prog 22 (S22 N) := sat_eq (ctx_nil tabs (by kernel_rfl)) Go.Proofs.Try.func22 (by kernel_rfl) (by kernel_rfl) (by decide) (by decide) (e22 N)
noncomputable def S21 (N : Nat) : Go.Rx.Spec := ⟨.none, [(.prod (.slice 3 (.int .i64)) (.prod (.slice 3 (.int .i64)) (.prod (.slice 3 (.int .i64)) (.slice 3 (.int .i64))))), (.prod (.slice 3 (.int .i64)) (.prod (.slice 3 (.int .i64)) (.prod (.slice 3 (.int .i64)) (.slice 3 (.int .i64)))))], .bool, 1, .ro, fun _ x => Px.laws_eqCase N x.1 x.2.1⟩
theorem e21 (N : Nat) : evalFn (ctx tab [(22, S22 N)]) N .nil Go.Proofs.Try.f21 .none [(.prod (.slice 3 (.int .i64)) (.prod (.slice 3 (.int .i64)) (.prod (.slice 3 (.int .i64)) (.slice 3 (.int .i64))))), (.prod (.slice 3 (.int .i64)) (.prod (.slice 3 (.int .i64)) (.prod (.slice 3 (.int .i64)) (.slice 3 (.int .i64)))))] .bool 1 .ro = (S21 N).f := by kernel_rfl
theorem s21 (N : Nat) : Sat Go.Proofs.Try.prog 21 (S21 N) := sat_eq (ctx_cons tabs (ctx_nil tabs (by kernel_rfl)) (s22 N)) Go.Proofs.Try.func21 (by kernel_rfl) (by kernel_rfl) (by decide) (by decide) (e21 N)
noncomputable def S13 (N : Nat) : Go.Rx.Spec := ⟨.none, [(.prod (.prod (.slice 3 (.int .i64)) (.prod (.slice 3 (.int .i64)) (.prod (.slice 3 (.int .i64)) (.slice 3 (.int .i64))))) (.prod (.slice 3 (.int .i64)) (.int .i64))), (.prod (.prod (.slice 3 (.int .i64)) (.prod (.slice 3 (.int .i64)) (.prod (.slice 3 (.int .i64)) (.slice 3 (.int .i64))))) (.prod (.slice 3 (.int .i64)) (.int .i64)))], .bool, 1, .ro, fun _ x => Px.laws_eqLedger N x.1 x.2.1⟩
theorem e13 (N : Nat) : evalFn (ctx tab [(21, S21 N), (22, S22 N)]) N .nil Go.Proofs.Try.f13 .none [(.prod (.prod (.slice 3 (.int .i64)) (.prod (.slice 3 (.int .i64)) (.prod (.slice 3 (.int .i64)) (.slice 3 (.int .i64))))) (.prod (.slice 3 (.int .i64)) (.int .i64))), (.prod (.prod (.slice 3 (.int .i64)) (.prod (.slice 3 (.int .i64)) (.prod (.slice 3 (.int .i64)) (.slice 3 (.int .i64))))) (.prod (.slice 3 (.int .i64)) (.int .i64)))] .bool 1 .ro = (S13 N).f := by kernel_rfl
theorem s13 (N : Nat) : Sat Go.Proofs.Try.prog 13 (S13 N) := sat_eq (ctx_cons tabs (ctx_cons tabs (ctx_nil tabs (by kernel_rfl)) (s22 N)) (s21 N)) Go.Proofs.Try.func13 (by kernel_rfl) (by kernel_rfl) (by decide) (by decide) (e13 N)
noncomputable def S40 (N : Nat) : Go.Rx.Spec := ⟨.none, [(.prod (.prod (.slice 3 (.int .i64)) (.prod (.slice 3 (.int .i64)) (.prod (.slice 3 (.int .i64)) (.slice 3 (.int .i64))))) (.prod (.slice 3 (.int .i64)) (.int .i64))), (.int .i64)], (.int .i64), 1, .ro, fun _ x => Px.spec_l12Stock N x.1 x.2.1⟩
theorem e40 (N : Nat) : evalFn (ctx tab []) N (.node none .nil (.node none .nil (.node none (.node none .nil (.node (some ⟨27, [(5, .val (.int .i64))], []⟩) (.node (some ⟨27, [(1, .val (.int .i64)), (2, .ptr 2 []), (5, .val (.int .i64)), (6, .val (.int .i64))], [⟨2, true, false, .ro, (.prod (.prod (.slice 3 (.int .i64)) (.prod (.slice 3 (.int .i64)) (.prod (.slice 3 (.int .i64)) (.slice 3 (.int .i64))))) (.prod (.slice 3 (.int .i64)) (.int .i64)))⟩]⟩) .nil .nil) .nil)) .nil))) Go.Proofs.Try.f40 .none [(.prod (.prod (.slice 3 (.int .i64)) (.prod (.slice 3 (.int .i64)) (.prod (.slice 3 (.int .i64)) (.slice 3 (.int .i64))))) (.prod (.slice 3 (.int .i64)) (.int .i64))), (.int .i64)] (.int .i64) 1 .ro = (S40 N).f := by kernel_rfl
theorem s40 (N : Nat) : Sat Go.Proofs.Try.prog 40 (S40 N) := sat_eq (ctx_nil tabs (by kernel_rfl)) Go.Proofs.Try.func40 (by kernel_rfl) (by kernel_rfl) (by decide) (by decide) (e40 N)
noncomputable def S57 (N : Nat) : Go.Rx.Spec := ⟨.none, [(.int .i64), (.int .i64), (.int .i64)], .bool, 1, .ro, fun _ x => Px.spec_l1In N x.1 x.2.1 x.2.2.1⟩
theorem e57 (N : Nat) : evalFn (ctx tab []) N .nil Go.Proofs.Try.f57 .none [(.int .i64), (.int .i64), (.int .i64)] .bool 1 .ro = (S57 N).f := by kernel_rfl
theorem s57 (N : Nat) : Sat Go.Proofs.Try.prog 57 (S57 N) := sat_eq (ctx_nil tabs (by kernel_rfl)) Go.Proofs.Try.func57 (by kernel_rfl) (by kernel_rfl) (by decide) (by decide) (e57 N)
noncomputable def S56 (N : Nat) : Go.Rx.Spec := ⟨.none, [(.slice 3 (.int .i64)), (.int .i64), (.int .i64)], .bool, 1, .ro, fun _ x => Px.spec_l2Row N x.1 x.2.1 x.2.2.1⟩
theorem e56 (N : Nat) : evalFn (ctx tab [(57, S57 N)]) N (.node none .nil (.node none (.node none .nil (.node (some ⟨25, [(0, .val (.slice 3 (.int .i64))), (1, .val (.int .i64))], []⟩) (.node (some ⟨25, [(0, .val (.slice 3 (.int .i64))), (1, .val (.int .i64)), (2, .val (.int .i64)), (7, .val (.int .i64))], []⟩) .nil .nil) .nil)) .nil)) Go.Proofs.Try.f56 .none [(.slice 3 (.int .i64)), (.int .i64), (.int .i64)] .bool 1 .ro = (S56 N).f := by kernel_rfl
theorem s56 (N : Nat) : Sat Go.Proofs.Try.prog 56 (S56 N) := sat_eq (ctx_cons tabs (ctx_nil tabs (by kernel_rfl)) (s57 N)) Go.Proofs.Try.func56 (by kernel_rfl) (by kernel_rfl) (by decide) (by decide) (e56 N)
noncomputable def S48 (N : Nat) : Go.Rx.Spec := ⟨.none, [(.prod (.slice 3 (.int .i64)) (.prod (.slice 3 (.int .i64)) (.prod (.slice 3 (.int .i64)) (.slice 3 (.int .i64)))))], .bool, 1, .ro, fun _ x => Px.spec_l2Good N x.1⟩
theorem e48 (N : Nat) : evalFn (ctx tab [(56, S56 N)]) N .nil Go.Proofs.Try.f48 .none [(.prod (.slice 3 (.int .i64)) (.prod (.slice 3 (.int .i64)) (.prod (.slice 3 (.int .i64)) (.slice 3 (.int .i64)))))] .bool 1 .ro = (S48 N).f := by kernel_rfl
theorem s48 (N : Nat) : Sat Go.Proofs.Try.prog 48 (S48 N) := sat_eq (ctx_cons tabs (ctx_nil tabs (by kernel_rfl)) (s56 N)) Go.Proofs.Try.func48 (by kernel_rfl) (by kernel_rfl) (by decide) (by decide) (e48 N)
noncomputable def S35 (N : Nat) : Go.Rx.Spec := ⟨.none, [(.prod (.prod (.slice 3 (.int .i64)) (.prod (.slice 3 (.int .i64)) (.prod (.slice 3 (.int .i64)) (.slice 3 (.int .i64))))) (.prod (.slice 3 (.int .i64)) (.int .i64)))], .bool, 1, .ro, fun _ x => Px.spec_l12Good N x.1⟩
theorem e35 (N : Nat) : evalFn (ctx tab [(40, S40 N), (48, S48 N), (56, S56 N), (57, S57 N)]) N (.node none .nil (.node none .nil (.node none .nil (.node none (.node none .nil (.node (some ⟨37, [], []⟩) (.node (some ⟨37, [(1, .ptr 1 []), (4, .val (.int .i64))], [⟨1, true, false, .ro, (.prod (.prod (.slice 3 (.int .i64)) (.prod (.slice 3 (.int .i64)) (.prod (.slice 3 (.int .i64)) (.slice 3 (.int .i64))))) (.prod (.slice 3 (.int .i64)) (.int .i64)))⟩]⟩) .nil .nil) .nil)) .nil)))) Go.Proofs.Try.f35 .none [(.prod (.prod (.slice 3 (.int .i64)) (.prod (.slice 3 (.int .i64)) (.prod (.slice 3 (.int .i64)) (.slice 3 (.int .i64))))) (.prod (.slice 3 (.int .i64)) (.int .i64)))] .bool 1 .ro = (S35 N).f := by kernel_rfl
theorem s35 (N : Nat) : Sat Go.Proofs.Try.prog 35 (S35 N) := sat_eq (ctx_cons tabs (ctx_cons tabs (ctx_cons tabs (ctx_cons tabs (ctx_nil tabs (by kernel_rfl)) (s57 N)) (s56 N)) (s48 N)) (s40 N)) Go.Proofs.Try.func35 (by kernel_rfl) (by kernel_rfl) (by decide) (by decide) (e35 N)
noncomputable def S14 (N : Nat) : Go.Rx.Spec := ⟨.none, [(.prod (.prod (.slice 3 (.int .i64)) (.prod (.slice 3 (.int .i64)) (.prod (.slice 3 (.int .i64)) (.slice 3 (.int .i64))))) (.prod (.slice 3 (.int .i64)) (.int .i64)))], (.prod (.int .i64) .bool), 2, .ro, fun _ x => Px.spec_StockNow N x.1⟩
theorem e14 (N : Nat) : evalFn (ctx tab [(35, S35 N), (40, S40 N)]) N .nil Go.Proofs.Try.f14 .none [(.prod (.prod (.slice 3 (.int .i64)) (.prod (.slice 3 (.int .i64)) (.prod (.slice 3 (.int .i64)) (.slice 3 (.int .i64))))) (.prod (.slice 3 (.int .i64)) (.int .i64)))] (.prod (.int .i64) .bool) 2 .ro = (S14 N).f := by kernel_rfl
theorem s14 (N : Nat) : Sat Go.Proofs.Try.prog 14 (S14 N) := sat_eq (ctx_cons tabs (ctx_cons tabs (ctx_nil tabs (by kernel_rfl)) (s40 N)) (s35 N)) Go.Proofs.Try.func14 (by kernel_rfl) (by kernel_rfl) (by decide) (by decide) (e14 N)
noncomputable def S38 (N : Nat) : Go.Rx.Spec := ⟨.none, [(.int .i64), (.int .i64), (.int .i64)], .bool, 1, .ro, fun _ x => Px.impl_within N x.1 x.2.1 x.2.2.1⟩
theorem e38 (N : Nat) : evalFn (ctx tab []) N .nil Go.Proofs.Try.f38 .none [(.int .i64), (.int .i64), (.int .i64)] .bool 1 .ro = (S38 N).f := by kernel_rfl
theorem s38 (N : Nat) : Sat Go.Proofs.Try.prog 38 (S38 N) := sat_eq (ctx_nil tabs (by kernel_rfl)) Go.Proofs.Try.func38 (by kernel_rfl) (by kernel_rfl) (by decide) (by decide) (e38 N)
noncomputable def S37 (N : Nat) : Go.Rx.Spec := ⟨.none, [(.slice 3 (.int .i64)), (.int .i64), (.int .i64)], .bool, 1, .ro, fun _ x => Px.impl_allWithin N x.1 x.2.1 x.2.2.1⟩
theorem e37 (N : Nat) : evalFn (ctx tab [(38, S38 N)]) N (.node none .nil (.node none (.node none .nil (.node (some ⟨21, [], []⟩) (.node (some ⟨21, [(1, .val (.int .i64)), (2, .val (.int .i64)), (9, .val (.slice 3 (.int .i64))), (10, .val (.int .i64)), (11, .val (.int .i64))], []⟩) .nil .nil) .nil)) .nil)) Go.Proofs.Try.f37 .none [(.slice 3 (.int .i64)), (.int .i64), (.int .i64)] .bool 1 .ro = (S37 N).f := by kernel_rfl
theorem s37 (N : Nat) : Sat Go.Proofs.Try.prog 37 (S37 N) := sat_eq (ctx_cons tabs (ctx_nil tabs (by kernel_rfl)) (s38 N)) Go.Proofs.Try.func37 (by kernel_rfl) (by kernel_rfl) (by decide) (by decide) (e37 N)
noncomputable def S36 (N : Nat) : Go.Rx.Spec := ⟨.none, [(.prod (.slice 3 (.int .i64)) (.prod (.slice 3 (.int .i64)) (.prod (.slice 3 (.int .i64)) (.slice 3 (.int .i64)))))], .bool, 1, .ro, fun _ x => Px.impl_IsCase N x.1⟩
theorem e36 (N : Nat) : evalFn (ctx tab [(37, S37 N)]) N .nil Go.Proofs.Try.f36 .none [(.prod (.slice 3 (.int .i64)) (.prod (.slice 3 (.int .i64)) (.prod (.slice 3 (.int .i64)) (.slice 3 (.int .i64)))))] .bool 1 .ro = (S36 N).f := by kernel_rfl
theorem s36 (N : Nat) : Sat Go.Proofs.Try.prog 36 (S36 N) := sat_eq (ctx_cons tabs (ctx_nil tabs (by kernel_rfl)) (s37 N)) Go.Proofs.Try.func36 (by kernel_rfl) (by kernel_rfl) (by decide) (by decide) (e36 N)
noncomputable def S58 (N : Nat) : Go.Rx.Spec := ⟨.none, [(.slice 3 (.int .i64))], (.int .i64), 1, .ro, fun _ x => Px.impl_total N x.1⟩
theorem e58 (N : Nat) : evalFn (ctx tab []) N (.node none .nil (.node none .nil (.node none (.node none .nil (.node (some ⟨17, [(3, .val (.int .i64))], []⟩) (.node (some ⟨17, [(3, .val (.int .i64)), (6, .val (.slice 3 (.int .i64))), (7, .val (.int .i64)), (8, .val (.int .i64))], []⟩) .nil .nil) .nil)) .nil))) Go.Proofs.Try.f58 .none [(.slice 3 (.int .i64))] (.int .i64) 1 .ro = (S58 N).f := by kernel_rfl
theorem s58 (N : Nat) : Sat Go.Proofs.Try.prog 58 (S58 N) := sat_eq (ctx_nil tabs (by kernel_rfl)) Go.Proofs.Try.func58 (by kernel_rfl) (by kernel_rfl) (by decide) (by decide) (e58 N)
noncomputable def S39 (N : Nat) : Go.Rx.Spec := ⟨.none, [(.prod (.prod (.slice 3 (.int .i64)) (.prod (.slice 3 (.int .i64)) (.prod (.slice 3 (.int .i64)) (.slice 3 (.int .i64))))) (.prod (.slice 3 (.int .i64)) (.int .i64))), (.int .i64)], (.int .i64), 1, .ro, fun _ x => Px.impl_Ledger_stock N x.1 x.2.1⟩
theorem e39 (N : Nat) : evalFn (ctx tab [(58, S58 N)]) N .nil Go.Proofs.Try.f39 .none [(.prod (.prod (.slice 3 (.int .i64)) (.prod (.slice 3 (.int .i64)) (.prod (.slice 3 (.int .i64)) (.slice 3 (.int .i64))))) (.prod (.slice 3 (.int .i64)) (.int .i64))), (.int .i64)] (.int .i64) 1 .ro = (S39 N).f := by kernel_rfl
theorem s39 (N : Nat) : Sat Go.Proofs.Try.prog 39 (S39 N) := sat_eq (ctx_cons tabs (ctx_nil tabs (by kernel_rfl)) (s58 N)) Go.Proofs.Try.func39 (by kernel_rfl) (by kernel_rfl) (by decide) (by decide) (e39 N)
noncomputable def S12 (N : Nat) : Go.Rx.Spec := ⟨.none, [(.prod (.prod (.slice 3 (.int .i64)) (.prod (.slice 3 (.int .i64)) (.prod (.slice 3 (.int .i64)) (.slice 3 (.int .i64))))) (.prod (.slice 3 (.int .i64)) (.int .i64)))], .bool, 1, .ro, fun _ x => Px.impl_IsLedger N x.1⟩
theorem e12 (N : Nat) : evalFn (ctx tab [(36, S36 N), (37, S37 N), (38, S38 N), (39, S39 N)]) N (.node none .nil (.node none .nil (.node none (.node none .nil (.node (some ⟨44, [], []⟩) (.node (some ⟨44, [(1, .ptr 1 []), (34, .val (.int .i64)), (35, .val (.int .i64))], [⟨1, true, false, .ro, (.prod (.prod (.slice 3 (.int .i64)) (.prod (.slice 3 (.int .i64)) (.prod (.slice 3 (.int .i64)) (.slice 3 (.int .i64))))) (.prod (.slice 3 (.int .i64)) (.int .i64)))⟩]⟩) .nil .nil) .nil)) .nil))) Go.Proofs.Try.f12 .none [(.prod (.prod (.slice 3 (.int .i64)) (.prod (.slice 3 (.int .i64)) (.prod (.slice 3 (.int .i64)) (.slice 3 (.int .i64))))) (.prod (.slice 3 (.int .i64)) (.int .i64)))] .bool 1 .ro = (S12 N).f := by kernel_rfl
theorem s12 (N : Nat) : Sat Go.Proofs.Try.prog 12 (S12 N) := sat_eq (ctx_cons tabs (ctx_cons tabs (ctx_cons tabs (ctx_cons tabs (ctx_nil tabs (by kernel_rfl)) (s39 N)) (s38 N)) (s37 N)) (s36 N)) Go.Proofs.Try.func12 (by kernel_rfl) (by kernel_rfl) (by decide) (by decide) (e12 N)
noncomputable def S15 (N : Nat) : Go.Rx.Spec := ⟨.none, [(.prod (.prod (.slice 3 (.int .i64)) (.prod (.slice 3 (.int .i64)) (.prod (.slice 3 (.int .i64)) (.slice 3 (.int .i64))))) (.prod (.slice 3 (.int .i64)) (.int .i64)))], (.prod (.int .i64) .bool), 2, .ro, fun _ x => Px.impl_StockNow N x.1⟩
theorem e15 (N : Nat) : evalFn (ctx tab [(12, S12 N), (39, S39 N)]) N .nil Go.Proofs.Try.f15 .none [(.prod (.prod (.slice 3 (.int .i64)) (.prod (.slice 3 (.int .i64)) (.prod (.slice 3 (.int .i64)) (.slice 3 (.int .i64))))) (.prod (.slice 3 (.int .i64)) (.int .i64)))] (.prod (.int .i64) .bool) 2 .ro = (S15 N).f := by kernel_rfl
theorem s15 (N : Nat) : Sat Go.Proofs.Try.prog 15 (S15 N) := sat_eq (ctx_cons tabs (ctx_cons tabs (ctx_nil tabs (by kernel_rfl)) (s39 N)) (s12 N)) Go.Proofs.Try.func15 (by kernel_rfl) (by kernel_rfl) (by decide) (by decide) (e15 N)
noncomputable def S4 (N : Nat) : Go.Rx.Spec := ⟨.none, [(.prod (.prod (.slice 3 (.int .i64)) (.prod (.slice 3 (.int .i64)) (.prod (.slice 3 (.int .i64)) (.slice 3 (.int .i64))))) (.prod (.slice 3 (.int .i64)) (.int .i64)))], .bool, 1, .ro, fun _ x => Px.laws_FnExactStockNow N x.1⟩
theorem e4 (N : Nat) : evalFn (ctx tab [(9, S9 N), (11, S11 N), (13, S13 N), (14, S14 N), (15, S15 N)]) N .nil Go.Proofs.Try.f4 .none [(.prod (.prod (.slice 3 (.int .i64)) (.prod (.slice 3 (.int .i64)) (.prod (.slice 3 (.int .i64)) (.slice 3 (.int .i64))))) (.prod (.slice 3 (.int .i64)) (.int .i64)))] .bool 1 .ro = (S4 N).f := by kernel_rfl
theorem s4 (N : Nat) : Sat Go.Proofs.Try.prog 4 (S4 N) := sat_eq (ctx_cons tabs (ctx_cons tabs (ctx_cons tabs (ctx_cons tabs (ctx_cons tabs (ctx_nil tabs (by kernel_rfl)) (s15 N)) (s14 N)) (s13 N)) (s11 N)) (s9 N)) Go.Proofs.Try.func4 (by kernel_rfl) (by kernel_rfl) (by decide) (by decide) (e4 N)
end Go.Proofs.Ytbjhilklcojdfaa.RsFnExactStockNow
