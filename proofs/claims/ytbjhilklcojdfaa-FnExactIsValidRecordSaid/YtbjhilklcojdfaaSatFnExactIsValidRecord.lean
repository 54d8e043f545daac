/- This text proves that the Go functions behind FnExactIsValidRecord compute the plain functions; no condition. -/
import Derived.Test.YtbjhilklcojdfaaProg
import Derived.Test.YtbjhilklcojdfaaPxFnExactIsValidRecord
import Derived.Test.YtbjhilklcojdfaaLayFnExactIsValidRecord
set_option linter.unusedVariables false
set_option linter.unusedSimpArgs false
namespace Go.Proofs.Ytbjhilklcojdfaa.RsFnExactIsValidRecord
open Go.Rx
def tab : List (Nat × TI) := [
  (2, ⟨(.int .i64), 0, 8⟩),
  (3, ⟨(.int .i64), 0, 8⟩),
  (4, ⟨.bool, 0, 1⟩),
  (5, ⟨(.int .u8), 0, 1⟩),
  (6, ⟨(.int .u8), 0, 1⟩),
  (7, ⟨(.prod (.int .i64) (.prod (.int .i64) (.prod .bool (.int .u8)))), 4, 24⟩),
  (8, ⟨(.prod (.int .i64) (.prod (.int .i64) (.prod .bool (.int .u8)))), 4, 24⟩),
  (9, ⟨.str, 0, 16⟩),
  (10, ⟨.str, 0, 16⟩),
  (11, ⟨.str, 0, 16⟩),
  (12, ⟨(.int .u64), 0, 8⟩),
  (13, ⟨(.prod .str (.int .u64)), 2, 24⟩),
  (14, ⟨(.prod .str (.int .u64)), 2, 24⟩),
  (20, ⟨.err, 0, 16⟩),
  (21, ⟨(.int .i32), 0, 4⟩),
  (22, ⟨(.slice 3 (.int .i64)), 0, 24⟩),
  (23, ⟨(.prod (.slice 3 (.int .i64)) (.prod (.slice 3 (.int .i64)) (.prod (.slice 3 (.int .i64)) (.slice 3 (.int .i64))))), 4, 96⟩),
  (24, ⟨(.prod (.slice 3 (.int .i64)) (.prod (.slice 3 (.int .i64)) (.prod (.slice 3 (.int .i64)) (.slice 3 (.int .i64))))), 4, 96⟩),
  (25, ⟨(.prod (.prod (.slice 3 (.int .i64)) (.prod (.slice 3 (.int .i64)) (.prod (.slice 3 (.int .i64)) (.slice 3 (.int .i64))))) (.prod (.slice 3 (.int .i64)) (.int .i64))), 3, 128⟩),
  (26, ⟨(.prod (.prod (.slice 3 (.int .i64)) (.prod (.slice 3 (.int .i64)) (.prod (.slice 3 (.int .i64)) (.slice 3 (.int .i64))))) (.prod (.slice 3 (.int .i64)) (.int .i64))), 3, 128⟩),
  (29, ⟨(.prod (.slice 3 (.int .i64)) (.prod (.slice 3 (.int .i64)) (.prod (.slice 3 (.int .i64)) (.slice 3 (.int .i64))))), 4, 96⟩),
  (30, ⟨(.prod (.prod (.slice 3 (.int .i64)) (.prod (.slice 3 (.int .i64)) (.prod (.slice 3 (.int .i64)) (.slice 3 (.int .i64))))) (.prod (.slice 3 (.int .i64)) (.int .i64))), 3, 128⟩),
  (31, ⟨(.prod (.prod (.slice 3 (.int .i64)) (.prod (.slice 3 (.int .i64)) (.prod (.slice 3 (.int .i64)) (.slice 3 (.int .i64))))) (.prod (.slice 3 (.int .i64)) (.int .i64))), 3, 128⟩),
  (44, ⟨(.prod .str .str), 2, 32⟩),
  (45, ⟨(.prod .str .str), 2, 32⟩),
  (48, ⟨(.prod .str .str), 2, 32⟩),
  (72, ⟨(.arr 3 (.int .i64)), 0, 24⟩),
  (84, ⟨(.arr 256 .bool), 0, 256⟩),
  (85, ⟨(.arr 256 .bool), 0, 256⟩),
  (91, ⟨(.int .u64), 0, 8⟩),
  (100, ⟨(.int .u32), 0, 4⟩),
  (101, ⟨(.int .u8), 0, 1⟩),
  (102, ⟨(.int .u8), 0, 1⟩),
  (105, ⟨(.int .i32), 0, 4⟩),
  (106, ⟨(.int .i32), 0, 4⟩)]
theorem tabs : ∀ l, TabOk Go.Proofs.Try.prog (ctx tab l) := tab_all (by kernel_rfl)
noncomputable def S23 (N : Nat) : Go.Rx.Spec := ⟨.none, [(.prod .str .str), (.int .i64)], (.int .i64), 1, .ro, fun _ x => Px.laws_szLogRecord N x.1 x.2.1⟩
theorem e23 (N : Nat) : evalFn (ctx tab []) N .nil Go.Proofs.Try.f23 .none [(.prod .str .str), (.int .i64)] (.int .i64) 1 .ro = (S23 N).f := by kernel_rfl
theorem s23 (N : Nat) : Sat Go.Proofs.Try.prog 23 (S23 N) := sat_eq (ctx_nil tabs (by kernel_rfl)) Go.Proofs.Try.func23 (by kernel_rfl) (by kernel_rfl) (by decide) (by decide) (e23 N)
noncomputable def S57 (N : Nat) : Go.Rx.Spec := ⟨.none, [(.int .i64), (.int .i64), (.int .i64)], .bool, 1, .ro, fun _ x => Px.spec_l1In N x.1 x.2.1 x.2.2.1⟩
theorem e57 (N : Nat) : evalFn (ctx tab []) N .nil Go.Proofs.Try.f57 .none [(.int .i64), (.int .i64), (.int .i64)] .bool 1 .ro = (S57 N).f := by kernel_rfl
theorem s57 (N : Nat) : Sat Go.Proofs.Try.prog 57 (S57 N) := sat_eq (ctx_nil tabs (by kernel_rfl)) Go.Proofs.Try.func57 (by kernel_rfl) (by kernel_rfl) (by decide) (by decide) (e57 N)
noncomputable def S63 (N : Nat) : Go.Rx.Spec := ⟨.none, [.str, (.int .i64)], .bool, 1, .ro, fun _ x => Px.spec_l12Bytes N x.1 x.2.1⟩
theorem e63 (N : Nat) : evalFn (ctx tab [(57, S57 N)]) N (.node none .nil (.node none (.node none .nil (.node (some ⟨28, [(0, .val .str), (1, .val (.int .i64))], []⟩) (.node (some ⟨28, [(0, .val .str), (1, .val (.int .i64)), (5, .val (.int .i64))], []⟩) .nil .nil) .nil)) .nil)) Go.Proofs.Try.f63 .none [.str, (.int .i64)] .bool 1 .ro = (S63 N).f := by kernel_rfl
theorem s63 (N : Nat) : Sat Go.Proofs.Try.prog 63 (S63 N) := sat_eq (ctx_cons tabs (ctx_nil tabs (by kernel_rfl)) (s57 N)) Go.Proofs.Try.func63 (by kernel_rfl) (by kernel_rfl) (by decide) (by decide) (e63 N)
noncomputable def S64 (N : Nat) : Go.Rx.Spec := ⟨.none, [.str, (.int .u8)], .bool, 1, .ro, fun _ x => Px.spec_l1Stands N x.1 x.2.1⟩
theorem e64 (N : Nat) : evalFn (ctx tab []) N (.node none .nil (.node none (.node none .nil (.node (some ⟨17, [], []⟩) (.node (some ⟨17, [(0, .val .str), (1, .val (.int .u8)), (5, .val (.int .i64))], []⟩) .nil .nil) .nil)) .nil)) Go.Proofs.Try.f64 .none [.str, (.int .u8)] .bool 1 .ro = (S64 N).f := by kernel_rfl
theorem s64 (N : Nat) : Sat Go.Proofs.Try.prog 64 (S64 N) := sat_eq (ctx_nil tabs (by kernel_rfl)) Go.Proofs.Try.func64 (by kernel_rfl) (by kernel_rfl) (by decide) (by decide) (e64 N)
noncomputable def S45 (N : Nat) : Go.Rx.Spec := ⟨.none, [(.prod .str .str)], .bool, 1, .ro, fun _ x => Px.spec_l12Record N x.1⟩
theorem e45 (N : Nat) : evalFn (ctx tab [(63, S63 N), (64, S64 N)]) N .nil Go.Proofs.Try.f45 .none [(.prod .str .str)] .bool 1 .ro = (S45 N).f := by kernel_rfl
theorem s45 (N : Nat) : Sat Go.Proofs.Try.prog 45 (S45 N) := sat_eq (ctx_cons tabs (ctx_cons tabs (ctx_nil tabs (by kernel_rfl)) (s64 N)) (s63 N)) Go.Proofs.Try.func45 (by kernel_rfl) (by kernel_rfl) (by decide) (by decide) (e45 N)
noncomputable def S24 (N : Nat) : Go.Rx.Spec := ⟨.none, [(.prod .str .str)], .bool, 1, .ro, fun _ x => Px.spec_IsValidRecord N x.1⟩
theorem e24 (N : Nat) : evalFn (ctx tab [(45, S45 N)]) N .nil Go.Proofs.Try.f24 .none [(.prod .str .str)] .bool 1 .ro = (S24 N).f := by kernel_rfl
theorem s24 (N : Nat) : Sat Go.Proofs.Try.prog 24 (S24 N) := sat_eq (ctx_cons tabs (ctx_nil tabs (by kernel_rfl)) (s45 N)) Go.Proofs.Try.func24 (by kernel_rfl) (by kernel_rfl) (by decide) (by decide) (e24 N)
noncomputable def S25 (N : Nat) : Go.Rx.Spec := ⟨.none, [(.prod .str .str)], (.prod .str .str), 1, .ro, fun _ x => Px.laws_toLogRecord N x.1⟩
theorem e25 (N : Nat) : evalFn (ctx tab []) N .nil Go.Proofs.Try.f25 .none [(.prod .str .str)] (.prod .str .str) 1 .ro = (S25 N).f := by kernel_rfl
theorem s25 (N : Nat) : Sat Go.Proofs.Try.prog 25 (S25 N) := sat_eq (ctx_nil tabs (by kernel_rfl)) Go.Proofs.Try.func25 (by kernel_rfl) (by kernel_rfl) (by decide) (by decide) (e25 N)
noncomputable def S65 (N : Nat) : Go.Rx.Spec := ⟨.none, [.str, .str], .bool, 1, .ro, fun _ x => Px.strings_ContainsAny N x.1 x.2.1⟩
theorem s65 (N : Nat) : Sat Go.Proofs.Try.prog 65 (S65 N) := sat_containsAny Go.Proofs.Try.func65 (by kernel_rfl) (by kernel_rfl) Go.Proofs.Try.strings_ContainsAny_laid
noncomputable def S47 (N : Nat) : Go.Rx.Spec := ⟨.none, [.str, (.int .i64), .str], .bool, 1, .ro, fun _ x => Px.impl_isPlain N x.1 x.2.1 x.2.2.1⟩
theorem e47 (N : Nat) : evalFn (ctx tab [(65, S65 N)]) N (.node none .nil (.node none (.node none .nil (.node (some ⟨34, [(0, .val .str), (1, .val (.int .i64)), (2, .val .str)], []⟩) (.node (some ⟨34, [(0, .val .str), (1, .val (.int .i64)), (2, .val .str), (9, .val (.int .i64)), (10, .val (.int .i64))], []⟩) .nil .nil) .nil)) .nil)) Go.Proofs.Try.f47 .none [.str, (.int .i64), .str] .bool 1 .ro = (S47 N).f := by kernel_rfl
theorem s47 (N : Nat) : Sat Go.Proofs.Try.prog 47 (S47 N) := sat_eq (ctx_cons tabs (ctx_nil tabs (by kernel_rfl)) (s65 N)) Go.Proofs.Try.func47 (by kernel_rfl) (by kernel_rfl) (by decide) (by decide) (e47 N)
noncomputable def S46 (N : Nat) : Go.Rx.Spec := ⟨.none, [.str], .bool, 1, .ro, fun _ x => Px.impl_isCommand N x.1⟩
theorem e46 (N : Nat) : evalFn (ctx tab [(47, S47 N)]) N .nil Go.Proofs.Try.f46 .none [.str] .bool 1 .ro = (S46 N).f := by kernel_rfl
theorem s46 (N : Nat) : Sat Go.Proofs.Try.prog 46 (S46 N) := sat_eq (ctx_cons tabs (ctx_nil tabs (by kernel_rfl)) (s47 N)) Go.Proofs.Try.func46 (by kernel_rfl) (by kernel_rfl) (by decide) (by decide) (e46 N)
noncomputable def S26 (N : Nat) : Go.Rx.Spec := ⟨.none, [(.prod .str .str)], .bool, 1, .ro, fun _ x => Px.impl_IsValidRecord N x.1⟩
theorem e26 (N : Nat) : evalFn (ctx tab [(46, S46 N), (47, S47 N)]) N .nil Go.Proofs.Try.f26 .none [(.prod .str .str)] .bool 1 .ro = (S26 N).f := by kernel_rfl
theorem s26 (N : Nat) : Sat Go.Proofs.Try.prog 26 (S26 N) := sat_eq (ctx_cons tabs (ctx_cons tabs (ctx_nil tabs (by kernel_rfl)) (s47 N)) (s46 N)) Go.Proofs.Try.func26 (by kernel_rfl) (by kernel_rfl) (by decide) (by decide) (e26 N)
noncomputable def S6 (N : Nat) : Go.Rx.Spec := ⟨.none, [(.prod .str .str)], .bool, 1, .ro, fun _ x => Px.laws_FnExactIsValidRecord N x.1⟩
theorem e6 (N : Nat) : evalFn (ctx tab [(23, S23 N), (24, S24 N), (25, S25 N), (26, S26 N)]) N .nil Go.Proofs.Try.f6 .none [(.prod .str .str)] .bool 1 .ro = (S6 N).f := by kernel_rfl
theorem s6 (N : Nat) : Sat Go.Proofs.Try.prog 6 (S6 N) := sat_eq (ctx_cons tabs (ctx_cons tabs (ctx_cons tabs (ctx_cons tabs (ctx_nil tabs (by kernel_rfl)) (s26 N)) (s25 N)) (s24 N)) (s23 N)) Go.Proofs.Try.func6 (by kernel_rfl) (by kernel_rfl) (by decide) (by decide) (e6 N)
end Go.Proofs.Ytbjhilklcojdfaa.RsFnExactIsValidRecord
