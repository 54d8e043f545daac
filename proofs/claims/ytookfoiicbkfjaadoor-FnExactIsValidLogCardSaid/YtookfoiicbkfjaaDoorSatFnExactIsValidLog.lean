/- This text proves that the Go functions behind FnExactIsValidLog compute the plain functions; no condition. -/
import Derived.Test.YtookfoiicbkfjaaDoorProg
import Derived.Test.YtookfoiicbkfjaaDoorPxFnExactIsValidLog
import Derived.Test.YtookfoiicbkfjaaDoorLayFnExactIsValidLog
set_option linter.unusedVariables false
set_option linter.unusedSimpArgs false
namespace Go.Proofs.YtookfoiicbkfjaaDoor.RsFnExactIsValidLog
open Go.Rx
def tab : List (Nat × TI) := [
  (2, ⟨(.int .i64), 0, 8⟩),
  (3, ⟨(.int .i64), 0, 8⟩),
  (4, ⟨.bool, 0, 1⟩),
  (5, ⟨(.int .u8), 0, 1⟩),
  (6, ⟨(.int .u8), 0, 1⟩),
  (7, ⟨(.prod (.int .i64) (.prod (.int .i64) (.prod .bool (.int .u8)))), 4, 24⟩),
  (8, ⟨(.prod (.int .i64) (.prod (.int .i64) (.prod .bool (.int .u8)))), 4, 24⟩),
  (9, ⟨.str, 0, 16⟩),
  (10, ⟨.str, 0, 16⟩),
  (11, ⟨.str, 0, 16⟩),
  (12, ⟨(.int .u64), 0, 8⟩),
  (13, ⟨(.prod .str (.int .u64)), 2, 24⟩),
  (14, ⟨(.prod .str (.int .u64)), 2, 24⟩),
  (20, ⟨.err, 0, 16⟩),
  (21, ⟨(.int .i32), 0, 4⟩),
  (22, ⟨(.prod .str (.prod .str (.int .i64))), 3, 40⟩),
  (23, ⟨(.prod .str (.prod .str (.int .i64))), 3, 40⟩),
  (28, ⟨(.prod .str (.prod .str (.int .i64))), 3, 40⟩),
  (33, ⟨(.slice 5 (.int .u8)), 0, 24⟩),
  (35, ⟨(.slice 3 (.int .i64)), 0, 24⟩),
  (36, ⟨(.prod (.int .i64) (.prod (.slice 3 (.int .i64)) (.prod (.int .i64) (.prod (.int .i64) (.prod (.int .i64) (.int .i64)))))), 6, 64⟩),
  (37, ⟨(.prod (.int .i64) (.prod (.slice 3 (.int .i64)) (.prod (.int .i64) (.prod (.int .i64) (.prod (.int .i64) (.int .i64)))))), 6, 64⟩),
  (38, ⟨(.slice 71 (.arr 2 (.int .i64))), 0, 24⟩),
  (50, ⟨(.slice 81 (.prod .str .str)), 0, 24⟩),
  (57, ⟨(.int .u64), 0, 8⟩),
  (58, ⟨(.prod (.slice 5 (.int .u8)) (.prod (.int .i64) (.int .u64))), 3, 40⟩),
  (59, ⟨(.prod (.slice 5 (.int .u8)) (.prod (.int .i64) (.int .u64))), 3, 40⟩),
  (71, ⟨(.arr 2 (.int .i64)), 0, 16⟩),
  (76, ⟨(.slice 9 .str), 0, 24⟩),
  (80, ⟨(.prod .str .str), 2, 32⟩),
  (81, ⟨(.prod .str .str), 2, 32⟩),
  (100, ⟨.err, 0, 16⟩),
  (101, ⟨.err, 0, 16⟩),
  (107, ⟨(.slice 35 (.slice 3 (.int .i64))), 0, 24⟩),
  (110, ⟨(.int .u64), 0, 8⟩),
  (123, ⟨(.arr 24 (.int .u8)), 0, 24⟩),
  (134, ⟨(.arr 20 (.int .u64)), 0, 160⟩),
  (135, ⟨(.int .u32), 0, 4⟩),
  (136, ⟨(.arr 65 (.int .u8)), 0, 65⟩),
  (142, ⟨(.arr 256 .bool), 0, 256⟩),
  (143, ⟨(.arr 256 .bool), 0, 256⟩),
  (147, ⟨(.arr 32 (.int .u8)), 0, 32⟩),
  (148, ⟨(.arr 64 (.int .u8)), 0, 64⟩),
  (156, ⟨(.int .u8), 0, 1⟩),
  (157, ⟨(.int .u8), 0, 1⟩),
  (159, ⟨(.int .i32), 0, 4⟩),
  (160, ⟨(.int .i32), 0, 4⟩)]
abbrev gm : Nat := 0
instance laidI : Laid Go.Proofs.Tryd.prog := doorLaid Go.Proofs.Tryd.prog gm
theorem tabs : ∀ l, TabOk Go.Proofs.Tryd.prog (ctx tab l) := tab_all (by kernel_rfl)
noncomputable def S9 (N : Nat) : Go.Rx.Spec := ⟨.none, [(.prod .str (.prod .str (.int .i64))), (.int .i64)], (.int .i64), 1, .ro, fun _ x => Px.laws_szLog N x.1 x.2.1⟩
theorem e9 (N : Nat) : evalFn (ctx tab []) N .nil Go.Proofs.Tryd.f9 .none [(.prod .str (.prod .str (.int .i64))), (.int .i64)] (.int .i64) 1 .ro = (S9 N).f := by kernel_rfl
theorem s9 (N : Nat) : Sat Go.Proofs.Tryd.prog 9 (S9 N) := sat_eq (ctx_nil tabs (by kernel_rfl)) Go.Proofs.Tryd.func9 (by kernel_rfl) (by kernel_rfl) (by decide) (by decide) (e9 N)
noncomputable def S50 (N : Nat) : Go.Rx.Spec := ⟨.none, [.str, (.int .u8)], (.slice 9 .str), 1, (.own .ro), fun _ x => Px.spec_l1Split N x.1 x.2.1⟩
theorem e50 (N : Nat) : evalFn (ctx tab []) N (.node none .nil (.node none .nil (.node none .nil (.node none (.node none .nil (.node (some ⟨35, [(0, .val .str), (5, .vw 8 []), (6, .val (.int .i64))], [⟨8, false, false, (.own .ro), (.slice 9 .str)⟩]⟩) (.node (some ⟨35, [(0, .val .str), (1, .val (.int .u8)), (5, .vw 8 []), (6, .val (.int .i64)), (7, .val (.int .i64))], [⟨8, false, false, (.own .ro), (.slice 9 .str)⟩]⟩) .nil .nil) .nil)) .nil)))) Go.Proofs.Tryd.f50 .none [.str, (.int .u8)] (.slice 9 .str) 1 (.own .ro) = (S50 N).f := by kernel_rfl
theorem s50 (N : Nat) : Sat Go.Proofs.Tryd.prog 50 (S50 N) := sat_eq (ctx_nil tabs (by kernel_rfl)) Go.Proofs.Tryd.func50 (by kernel_rfl) (by kernel_rfl) (by decide) (by decide) (e50 N)
noncomputable def S49 (N : Nat) : Go.Rx.Spec := ⟨.none, [(.int .i64)], .str, 1, .ro, fun _ x => Px.spec_l1Num N x.1⟩
noncomputable def S49R (F : Int → Option (ByteArray × Unit)) : Go.Rx.Spec := ⟨.none, [(.int .i64)], .str, 1, .ro, fun _ x => F x.1⟩
theorem e49 (N : Nat) (kr : Int → Option (ByteArray × Unit)) : evalFn (ctx tab [(49, S49R kr)]) N .nil Go.Proofs.Tryd.f49 .none [(.int .i64)] .str 1 .ro = (S49R (Px.spec_l1Num_F N kr)).f := by kernel_rfl
theorem s49R (N : Nat) : ∀ m : Nat, Sat Go.Proofs.Tryd.prog 49 (S49R (Px.spec_l1Num_R N m))
  | 0 => sat_none Go.Proofs.Tryd.func49 (by kernel_rfl) (by kernel_rfl)
  | m + 1 => by
    have ih := s49R N m
    exact sat_eq (ctx_cons tabs (ctx_nil tabs (by kernel_rfl)) ih) Go.Proofs.Tryd.func49 (by kernel_rfl) (by kernel_rfl) (by decide) (by decide) (e49 N _)
theorem s49 (N : Nat) : Sat Go.Proofs.Tryd.prog 49 (S49 N) := s49R N N
noncomputable def S60 (N : Nat) : Go.Rx.Spec := ⟨.none, [(.int .i64), (.int .i64), (.int .i64)], .bool, 1, .ro, fun _ x => Px.spec_l1In N x.1 x.2.1 x.2.2.1⟩
theorem e60 (N : Nat) : evalFn (ctx tab []) N .nil Go.Proofs.Tryd.f60 .none [(.int .i64), (.int .i64), (.int .i64)] .bool 1 .ro = (S60 N).f := by kernel_rfl
theorem s60 (N : Nat) : Sat Go.Proofs.Tryd.prog 60 (S60 N) := sat_eq (ctx_nil tabs (by kernel_rfl)) Go.Proofs.Tryd.func60 (by kernel_rfl) (by kernel_rfl) (by decide) (by decide) (e60 N)
noncomputable def S84 (N : Nat) : Go.Rx.Spec := ⟨.none, [.str, (.int .i64)], .bool, 1, .ro, fun _ x => Px.spec_l12Bytes N x.1 x.2.1⟩
theorem e84 (N : Nat) : evalFn (ctx tab [(60, S60 N)]) N (.node none .nil (.node none (.node none .nil (.node (some ⟨28, [(0, .val .str), (1, .val (.int .i64))], []⟩) (.node (some ⟨28, [(0, .val .str), (1, .val (.int .i64)), (5, .val (.int .i64))], []⟩) .nil .nil) .nil)) .nil)) Go.Proofs.Tryd.f84 .none [.str, (.int .i64)] .bool 1 .ro = (S84 N).f := by kernel_rfl
theorem s84 (N : Nat) : Sat Go.Proofs.Tryd.prog 84 (S84 N) := sat_eq (ctx_cons tabs (ctx_nil tabs (by kernel_rfl)) (s60 N)) Go.Proofs.Tryd.func84 (by kernel_rfl) (by kernel_rfl) (by decide) (by decide) (e84 N)
noncomputable def S85 (N : Nat) : Go.Rx.Spec := ⟨.none, [.str, (.int .u8)], .bool, 1, .ro, fun _ x => Px.spec_l1Stands N x.1 x.2.1⟩
theorem e85 (N : Nat) : evalFn (ctx tab []) N (.node none .nil (.node none (.node none .nil (.node (some ⟨17, [], []⟩) (.node (some ⟨17, [(0, .val .str), (1, .val (.int .u8)), (5, .val (.int .i64))], []⟩) .nil .nil) .nil)) .nil)) Go.Proofs.Tryd.f85 .none [.str, (.int .u8)] .bool 1 .ro = (S85 N).f := by kernel_rfl
theorem s85 (N : Nat) : Sat Go.Proofs.Tryd.prog 85 (S85 N) := sat_eq (ctx_nil tabs (by kernel_rfl)) Go.Proofs.Tryd.func85 (by kernel_rfl) (by kernel_rfl) (by decide) (by decide) (e85 N)
noncomputable def S74 (N : Nat) : Go.Rx.Spec := ⟨.none, [(.prod .str .str)], .bool, 1, .ro, fun _ x => Px.spec_l12Record N x.1⟩
theorem e74 (N : Nat) : evalFn (ctx tab [(84, S84 N), (85, S85 N)]) N .nil Go.Proofs.Tryd.f74 .none [(.prod .str .str)] .bool 1 .ro = (S74 N).f := by kernel_rfl
theorem s74 (N : Nat) : Sat Go.Proofs.Tryd.prog 74 (S74 N) := sat_eq (ctx_cons tabs (ctx_cons tabs (ctx_nil tabs (by kernel_rfl)) (s85 N)) (s84 N)) Go.Proofs.Tryd.func74 (by kernel_rfl) (by kernel_rfl) (by decide) (by decide) (e74 N)
noncomputable def S101 (N : Nat) : Go.Rx.Spec := ⟨.none, [.str], (.int .i64), 1, .ro, fun _ x => Px.spec_l1Sum N x.1⟩
theorem e101 (N : Nat) : evalFn (ctx tab []) N (.node none .nil (.node none .nil (.node none (.node none .nil (.node (some ⟨21, [(3, .val (.int .i64))], []⟩) (.node (some ⟨21, [(0, .val .str), (3, .val (.int .i64)), (4, .val (.int .i64))], []⟩) .nil .nil) .nil)) .nil))) Go.Proofs.Tryd.f101 .none [.str] (.int .i64) 1 .ro = (S101 N).f := by kernel_rfl
theorem s101 (N : Nat) : Sat Go.Proofs.Tryd.prog 101 (S101 N) := sat_eq (ctx_nil tabs (by kernel_rfl)) Go.Proofs.Tryd.func101 (by kernel_rfl) (by kernel_rfl) (by decide) (by decide) (e101 N)
noncomputable def S86 (N : Nat) : Go.Rx.Spec := ⟨.none, [.str], .str, 1, .ro, fun _ x => Px.spec_l1Seal N x.1⟩
theorem e86 (N : Nat) : evalFn (ctx tab [(49, S49 N), (101, S101 N)]) N .nil Go.Proofs.Tryd.f86 .none [.str] .str 1 .ro = (S86 N).f := by kernel_rfl
theorem s86 (N : Nat) : Sat Go.Proofs.Tryd.prog 86 (S86 N) := sat_eq (ctx_cons tabs (ctx_cons tabs (ctx_nil tabs (by kernel_rfl)) (s101 N)) (s49 N)) Go.Proofs.Tryd.func86 (by kernel_rfl) (by kernel_rfl) (by decide) (by decide) (e86 N)
noncomputable def S75 (N : Nat) : Go.Rx.Spec := ⟨.none, [(.int .i64), (.prod .str .str)], .str, 1, .ro, fun _ x => Px.spec_l12Line N x.1 x.2.1⟩
theorem e75 (N : Nat) : evalFn (ctx tab [(49, S49 N), (86, S86 N)]) N .nil Go.Proofs.Tryd.f75 .none [(.int .i64), (.prod .str .str)] .str 1 .ro = (S75 N).f := by kernel_rfl
theorem s75 (N : Nat) : Sat Go.Proofs.Tryd.prog 75 (S75 N) := sat_eq (ctx_cons tabs (ctx_cons tabs (ctx_nil tabs (by kernel_rfl)) (s86 N)) (s49 N)) Go.Proofs.Tryd.func75 (by kernel_rfl) (by kernel_rfl) (by decide) (by decide) (e75 N)
noncomputable def S51 (N : Nat) : Go.Rx.Spec := ⟨.none, [.str, (.int .i64)], (.prod (.prod .str .str) .bool), 2, .ro, fun _ x => Px.spec_l12Decode N x.1 x.2.1⟩
theorem e51 (N : Nat) : evalFn (ctx tab [(49, S49 N), (50, S50 N), (74, S74 N), (75, S75 N)]) N .nil Go.Proofs.Tryd.f51 .none [.str, (.int .i64)] (.prod (.prod .str .str) .bool) 2 .ro = (S51 N).f := by kernel_rfl
theorem s51 (N : Nat) : Sat Go.Proofs.Tryd.prog 51 (S51 N) := sat_eq (ctx_cons tabs (ctx_cons tabs (ctx_cons tabs (ctx_cons tabs (ctx_nil tabs (by kernel_rfl)) (s75 N)) (s74 N)) (s50 N)) (s49 N)) Go.Proofs.Tryd.func51 (by kernel_rfl) (by kernel_rfl) (by decide) (by decide) (e51 N)
noncomputable def S23 (N : Nat) : Go.Rx.Spec := ⟨.none, [.str], (.prod (.slice 81 (.prod .str .str)) (.int .i64)), 2, (.pr (.own .ro) .ro), fun _ x => Px.spec_l12Open N x.1⟩
theorem e23 (N : Nat) : evalFn (ctx tab [(50, S50 N), (51, S51 N)]) N (.node none .nil (.node none .nil (.node none .nil (.node none (.node (some ⟨52, [(4, .vw 9 []), (5, .val (.int .i64))], [⟨9, false, false, (.own .ro), (.slice 81 (.prod .str .str))⟩]⟩) (.node (some ⟨52, [(0, .val .str), (4, .vw 9 []), (5, .val (.int .i64))], [⟨9, false, false, (.own .ro), (.slice 81 (.prod .str .str))⟩]⟩) .nil .nil) .nil) .nil)))) Go.Proofs.Tryd.f23 .none [.str] (.prod (.slice 81 (.prod .str .str)) (.int .i64)) 2 (.pr (.own .ro) .ro) = (S23 N).f := by kernel_rfl
theorem s23 (N : Nat) : Sat Go.Proofs.Tryd.prog 23 (S23 N) := sat_eq (ctx_cons tabs (ctx_cons tabs (ctx_nil tabs (by kernel_rfl)) (s51 N)) (s50 N)) Go.Proofs.Tryd.func23 (by kernel_rfl) (by kernel_rfl) (by decide) (by decide) (e23 N)
noncomputable def S25 (N : Nat) : Go.Rx.Spec := ⟨.none, [(.prod .str (.prod .str (.int .i64)))], .bool, 1, .ro, fun _ x => Px.spec_l12Valid N x.1⟩
theorem e25 (N : Nat) : evalFn (ctx tab [(23, S23 N)]) N .nil Go.Proofs.Tryd.f25 .none [(.prod .str (.prod .str (.int .i64)))] .bool 1 .ro = (S25 N).f := by kernel_rfl
theorem s25 (N : Nat) : Sat Go.Proofs.Tryd.prog 25 (S25 N) := sat_eq (ctx_cons tabs (ctx_nil tabs (by kernel_rfl)) (s23 N)) Go.Proofs.Tryd.func25 (by kernel_rfl) (by kernel_rfl) (by decide) (by decide) (e25 N)
noncomputable def S10 (N : Nat) : Go.Rx.Spec := ⟨.none, [(.prod .str (.prod .str (.int .i64)))], .bool, 1, .ro, fun _ x => Px.spec_IsValidLog N x.1⟩
theorem e10 (N : Nat) : evalFn (ctx tab [(25, S25 N)]) N .nil Go.Proofs.Tryd.f10 .none [(.prod .str (.prod .str (.int .i64)))] .bool 1 .ro = (S10 N).f := by kernel_rfl
theorem s10 (N : Nat) : Sat Go.Proofs.Tryd.prog 10 (S10 N) := sat_eq (ctx_cons tabs (ctx_nil tabs (by kernel_rfl)) (s25 N)) Go.Proofs.Tryd.func10 (by kernel_rfl) (by kernel_rfl) (by decide) (by decide) (e10 N)
noncomputable def S11 (N : Nat) : Go.Rx.Spec := ⟨.none, [(.prod .str (.prod .str (.int .i64)))], (.prod .str (.prod .str (.int .i64))), 1, .ro, fun _ x => Px.laws_toLog N x.1⟩
theorem e11 (N : Nat) : evalFn (ctx tab []) N .nil Go.Proofs.Tryd.f11 .none [(.prod .str (.prod .str (.int .i64)))] (.prod .str (.prod .str (.int .i64))) 1 .ro = (S11 N).f := by kernel_rfl
theorem s11 (N : Nat) : Sat Go.Proofs.Tryd.prog 11 (S11 N) := sat_eq (ctx_nil tabs (by kernel_rfl)) Go.Proofs.Tryd.func11 (by kernel_rfl) (by kernel_rfl) (by decide) (by decide) (e11 N)
noncomputable def S52 (N : Nat) : Go.Rx.Spec := ⟨.none, [.str, .str], (.prod .str (.prod .str .bool)), 3, .ro, fun _ x => Px.strings_Cut N x.1 x.2.1⟩
theorem s52 (N : Nat) : Sat Go.Proofs.Tryd.prog 52 (S52 N) := sat_cut gm Go.Proofs.Tryd.func52 (by kernel_rfl) (by kernel_rfl) Go.Proofs.Tryd.strings_Cut
noncomputable def S47 (N : Nat) : Go.Rx.Spec := ⟨.none, [(.int .i64)], .str, 1, .ro, fun _ x => Px.strconv_Itoa N x.1⟩
theorem s47 (N : Nat) : Sat Go.Proofs.Tryd.prog 47 (S47 N) := sat_itoa gm Go.Proofs.Tryd.func47 (by kernel_rfl) (by kernel_rfl) Go.Proofs.Tryd.strconv_Itoa
noncomputable def S88 (N : Nat) : Go.Rx.Spec := ⟨.none, [.str, .str], .bool, 1, .ro, fun _ x => Px.strings_Contains N x.1 x.2.1⟩
theorem s88 (N : Nat) : Sat Go.Proofs.Tryd.prog 88 (S88 N) := sat_contains gm Go.Proofs.Tryd.func88 (by kernel_rfl) (by kernel_rfl) Go.Proofs.Tryd.strings_Contains
noncomputable def S89 (N : Nat) : Go.Rx.Spec := ⟨.none, [.str], (.int .i64), 1, .ro, fun _ x => Px.impl_checksum N x.1⟩
theorem e89 (N : Nat) : evalFn (ctx tab []) N (.node none .nil (.node none .nil (.node none (.node none .nil (.node (some ⟨21, [(3, .val (.int .i64))], []⟩) (.node (some ⟨21, [(0, .val .str), (3, .val (.int .i64)), (6, .val (.int .i64)), (7, .val (.int .i64))], []⟩) .nil .nil) .nil)) .nil))) Go.Proofs.Tryd.f89 .none [.str] (.int .i64) 1 .ro = (S89 N).f := by kernel_rfl
theorem s89 (N : Nat) : Sat Go.Proofs.Tryd.prog 89 (S89 N) := sat_eq (ctx_nil tabs (by kernel_rfl)) Go.Proofs.Tryd.func89 (by kernel_rfl) (by kernel_rfl) (by decide) (by decide) (e89 N)
noncomputable def S77 (N : Nat) : Go.Rx.Spec := ⟨.none, [.str], (.prod .str .bool), 2, .ro, fun _ x => Px.impl_AppendChecksum N x.1⟩
theorem e77 (N : Nat) : evalFn (ctx tab [(47, S47 N), (88, S88 N), (89, S89 N)]) N .nil Go.Proofs.Tryd.f77 .none [.str] (.prod .str .bool) 2 .ro = (S77 N).f := by kernel_rfl
theorem s77 (N : Nat) : Sat Go.Proofs.Tryd.prog 77 (S77 N) := sat_eq (ctx_cons tabs (ctx_cons tabs (ctx_cons tabs (ctx_nil tabs (by kernel_rfl)) (s89 N)) (s88 N)) (s47 N)) Go.Proofs.Tryd.func77 (by kernel_rfl) (by kernel_rfl) (by decide) (by decide) (e77 N)
noncomputable def S53 (N : Nat) : Go.Rx.Spec := ⟨.none, [.str], (.prod .str .bool), 2, .ro, fun _ x => Px.impl_VerifyChecksum N x.1⟩
theorem e53 (N : Nat) : evalFn (ctx tab [(52, S52 N), (77, S77 N)]) N .nil Go.Proofs.Tryd.f53 .none [.str] (.prod .str .bool) 2 .ro = (S53 N).f := by kernel_rfl
theorem s53 (N : Nat) : Sat Go.Proofs.Tryd.prog 53 (S53 N) := sat_eq (ctx_cons tabs (ctx_cons tabs (ctx_nil tabs (by kernel_rfl)) (s77 N)) (s52 N)) Go.Proofs.Tryd.func53 (by kernel_rfl) (by kernel_rfl) (by decide) (by decide) (e53 N)
noncomputable def S61 (N : Nat) : Go.Rx.Spec := ⟨.none, [(.int .i64), (.int .i64), (.int .i64)], .bool, 1, .ro, fun _ x => Px.impl_within N x.1 x.2.1 x.2.2.1⟩
theorem e61 (N : Nat) : evalFn (ctx tab []) N .nil Go.Proofs.Tryd.f61 .none [(.int .i64), (.int .i64), (.int .i64)] .bool 1 .ro = (S61 N).f := by kernel_rfl
theorem s61 (N : Nat) : Sat Go.Proofs.Tryd.prog 61 (S61 N) := sat_eq (ctx_nil tabs (by kernel_rfl)) Go.Proofs.Tryd.func61 (by kernel_rfl) (by kernel_rfl) (by decide) (by decide) (e61 N)
noncomputable def S107 (N : Nat) : Go.Rx.Spec := ⟨.none, [.str, .str], .bool, 1, .ro, fun _ x => Px.strings_ContainsAny N x.1 x.2.1⟩
theorem s107 (N : Nat) : Sat Go.Proofs.Tryd.prog 107 (S107 N) := sat_containsAny Go.Proofs.Tryd.func107 (by kernel_rfl) (by kernel_rfl) Go.Proofs.Tryd.strings_ContainsAny_laid
noncomputable def S91 (N : Nat) : Go.Rx.Spec := ⟨.none, [.str, (.int .i64), .str], .bool, 1, .ro, fun _ x => Px.impl_isPlain N x.1 x.2.1 x.2.2.1⟩
theorem e91 (N : Nat) : evalFn (ctx tab [(107, S107 N)]) N (.node none .nil (.node none (.node none .nil (.node (some ⟨34, [(0, .val .str), (1, .val (.int .i64)), (2, .val .str)], []⟩) (.node (some ⟨34, [(0, .val .str), (1, .val (.int .i64)), (2, .val .str), (9, .val (.int .i64)), (10, .val (.int .i64))], []⟩) .nil .nil) .nil)) .nil)) Go.Proofs.Tryd.f91 .none [.str, (.int .i64), .str] .bool 1 .ro = (S91 N).f := by kernel_rfl
theorem s91 (N : Nat) : Sat Go.Proofs.Tryd.prog 91 (S91 N) := sat_eq (ctx_cons tabs (ctx_nil tabs (by kernel_rfl)) (s107 N)) Go.Proofs.Tryd.func91 (by kernel_rfl) (by kernel_rfl) (by decide) (by decide) (e91 N)
noncomputable def S90 (N : Nat) : Go.Rx.Spec := ⟨.none, [.str], .bool, 1, .ro, fun _ x => Px.impl_isCommand N x.1⟩
theorem e90 (N : Nat) : evalFn (ctx tab [(91, S91 N)]) N .nil Go.Proofs.Tryd.f90 .none [.str] .bool 1 .ro = (S90 N).f := by kernel_rfl
theorem s90 (N : Nat) : Sat Go.Proofs.Tryd.prog 90 (S90 N) := sat_eq (ctx_cons tabs (ctx_nil tabs (by kernel_rfl)) (s91 N)) Go.Proofs.Tryd.func90 (by kernel_rfl) (by kernel_rfl) (by decide) (by decide) (e90 N)
noncomputable def S78 (N : Nat) : Go.Rx.Spec := ⟨.none, [(.prod .str .str)], .bool, 1, .ro, fun _ x => Px.impl_IsValidRecord N x.1⟩
theorem e78 (N : Nat) : evalFn (ctx tab [(90, S90 N), (91, S91 N)]) N .nil Go.Proofs.Tryd.f78 .none [(.prod .str .str)] .bool 1 .ro = (S78 N).f := by kernel_rfl
theorem s78 (N : Nat) : Sat Go.Proofs.Tryd.prog 78 (S78 N) := sat_eq (ctx_cons tabs (ctx_cons tabs (ctx_nil tabs (by kernel_rfl)) (s91 N)) (s90 N)) Go.Proofs.Tryd.func78 (by kernel_rfl) (by kernel_rfl) (by decide) (by decide) (e78 N)
noncomputable def S54 (N : Nat) : Go.Rx.Spec := ⟨.none, [(.int .i64), (.prod .str .str)], (.prod .str .bool), 2, .ro, fun _ x => Px.impl_EncodeRecord N x.1 x.2.1⟩
theorem e54 (N : Nat) : evalFn (ctx tab [(47, S47 N), (61, S61 N), (77, S77 N), (78, S78 N)]) N .nil Go.Proofs.Tryd.f54 .none [(.int .i64), (.prod .str .str)] (.prod .str .bool) 2 .ro = (S54 N).f := by kernel_rfl
theorem s54 (N : Nat) : Sat Go.Proofs.Tryd.prog 54 (S54 N) := sat_eq (ctx_cons tabs (ctx_cons tabs (ctx_cons tabs (ctx_cons tabs (ctx_nil tabs (by kernel_rfl)) (s78 N)) (s77 N)) (s61 N)) (s47 N)) Go.Proofs.Tryd.func54 (by kernel_rfl) (by kernel_rfl) (by decide) (by decide) (e54 N)
noncomputable def S24 (N : Nat) : Go.Rx.Spec := ⟨.none, [.str], (.prod (.slice 81 (.prod .str .str)) (.slice 3 (.int .i64))), 2, (.pr (.own .ro) (.own .ro)), fun _ x => Px.impl_readRecords N x.1⟩
theorem e24 (N : Nat) : evalFn (ctx tab [(52, S52 N), (53, S53 N), (54, S54 N)]) N (.node none .nil (.node none .nil (.node none (.node (some ⟨83, [(4, .vw 18 []), (5, .vw 19 [])], [⟨18, false, false, (.own .ro), (.slice 81 (.prod .str .str))⟩, ⟨19, false, false, (.own .ro), (.slice 3 (.int .i64))⟩]⟩) (.node (some ⟨83, [(0, .val .str), (4, .vw 18 []), (5, .vw 19 []), (6, .val (.int .i64))], [⟨18, false, false, (.own .ro), (.slice 81 (.prod .str .str))⟩, ⟨19, false, false, (.own .ro), (.slice 3 (.int .i64))⟩]⟩) .nil .nil) .nil) .nil))) Go.Proofs.Tryd.f24 .none [.str] (.prod (.slice 81 (.prod .str .str)) (.slice 3 (.int .i64))) 2 (.pr (.own .ro) (.own .ro)) = (S24 N).f := by kernel_rfl
theorem s24 (N : Nat) : Sat Go.Proofs.Tryd.prog 24 (S24 N) := sat_eq (ctx_cons tabs (ctx_cons tabs (ctx_cons tabs (ctx_nil tabs (by kernel_rfl)) (s54 N)) (s53 N)) (s52 N)) Go.Proofs.Tryd.func24 (by kernel_rfl) (by kernel_rfl) (by decide) (by decide) (e24 N)
noncomputable def S55 (N : Nat) : Go.Rx.Spec := ⟨.none, [(.slice 3 (.int .i64)), (.int .i64)], (.int .i64), 1, .ro, fun _ x => Px.slices_Index_int_int N x.1 x.2.1⟩
theorem e55 (N : Nat) : evalFn (ctx tab []) N (.node none .nil (.node none (.node none .nil (.node (some ⟨19, [], []⟩) (.node (some ⟨19, [(0, .val (.slice 3 (.int .i64))), (1, .val (.int .i64)), (7, .val (.int .i64)), (8, .val (.int .i64))], []⟩) .nil .nil) .nil)) .nil)) Go.Proofs.Tryd.f55 .none [(.slice 3 (.int .i64)), (.int .i64)] (.int .i64) 1 .ro = (S55 N).f := by kernel_rfl
theorem s55 (N : Nat) : Sat Go.Proofs.Tryd.prog 55 (S55 N) := sat_eq (ctx_nil tabs (by kernel_rfl)) Go.Proofs.Tryd.func55 (by kernel_rfl) (by kernel_rfl) (by decide) (by decide) (e55 N)
noncomputable def S26 (N : Nat) : Go.Rx.Spec := ⟨.none, [(.slice 3 (.int .i64)), (.int .i64)], .bool, 1, .ro, fun _ x => Px.slices_Contains_int_int N x.1 x.2.1⟩
theorem e26 (N : Nat) : evalFn (ctx tab [(55, S55 N)]) N .nil Go.Proofs.Tryd.f26 .none [(.slice 3 (.int .i64)), (.int .i64)] .bool 1 .ro = (S26 N).f := by kernel_rfl
theorem s26 (N : Nat) : Sat Go.Proofs.Tryd.prog 26 (S26 N) := sat_eq (ctx_cons tabs (ctx_nil tabs (by kernel_rfl)) (s55 N)) Go.Proofs.Tryd.func26 (by kernel_rfl) (by kernel_rfl) (by decide) (by decide) (e26 N)
noncomputable def S12 (N : Nat) : Go.Rx.Spec := ⟨.none, [(.prod .str (.prod .str (.int .i64)))], .bool, 1, .ro, fun _ x => Px.impl_IsValidLog N x.1⟩
theorem e12 (N : Nat) : evalFn (ctx tab [(24, S24 N), (26, S26 N)]) N .nil Go.Proofs.Tryd.f12 .none [(.prod .str (.prod .str (.int .i64)))] .bool 1 .ro = (S12 N).f := by kernel_rfl
theorem s12 (N : Nat) : Sat Go.Proofs.Tryd.prog 12 (S12 N) := sat_eq (ctx_cons tabs (ctx_cons tabs (ctx_nil tabs (by kernel_rfl)) (s26 N)) (s24 N)) Go.Proofs.Tryd.func12 (by kernel_rfl) (by kernel_rfl) (by decide) (by decide) (e12 N)
noncomputable def S4 (N : Nat) : Go.Rx.Spec := ⟨.none, [(.prod .str (.prod .str (.int .i64)))], .bool, 1, .ro, fun _ x => Px.laws_FnExactIsValidLog N x.1⟩
theorem e4 (N : Nat) : evalFn (ctx tab [(9, S9 N), (10, S10 N), (11, S11 N), (12, S12 N)]) N .nil Go.Proofs.Tryd.f4 .none [(.prod .str (.prod .str (.int .i64)))] .bool 1 .ro = (S4 N).f := by kernel_rfl
theorem s4 (N : Nat) : Sat Go.Proofs.Tryd.prog 4 (S4 N) := sat_eq (ctx_cons tabs (ctx_cons tabs (ctx_cons tabs (ctx_cons tabs (ctx_nil tabs (by kernel_rfl)) (s12 N)) (s11 N)) (s10 N)) (s9 N)) Go.Proofs.Tryd.func4 (by kernel_rfl) (by kernel_rfl) (by decide) (by decide) (e4 N)
end Go.Proofs.YtookfoiicbkfjaaDoor.RsFnExactIsValidLog
