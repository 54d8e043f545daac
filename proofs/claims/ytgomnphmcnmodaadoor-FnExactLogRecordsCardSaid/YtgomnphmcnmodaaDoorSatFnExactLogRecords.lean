/- This text proves that the Go functions behind FnExactLogRecords compute the plain functions; no condition. -/
import Derived.Test.YtgomnphmcnmodaaDoorProg
import Derived.Test.YtgomnphmcnmodaaDoorPxFnExactLogRecords
import Derived.Test.YtgomnphmcnmodaaDoorLayFnExactLogRecords
set_option linter.unusedVariables false
set_option linter.unusedSimpArgs false
namespace Go.Proofs.YtgomnphmcnmodaaDoor.RsFnExactLogRecords
open Go.Rx
def tab : List (Nat × TI) := [
  (2, ⟨(.int .i64), 0, 8⟩),
  (3, ⟨(.int .i64), 0, 8⟩),
  (4, ⟨.bool, 0, 1⟩),
  (5, ⟨(.int .u8), 0, 1⟩),
  (6, ⟨(.int .u8), 0, 1⟩),
  (7, ⟨(.prod (.int .i64) (.prod (.int .i64) (.prod .bool (.int .u8)))), 4, 24⟩),
  (8, ⟨(.prod (.int .i64) (.prod (.int .i64) (.prod .bool (.int .u8)))), 4, 24⟩),
  (9, ⟨.str, 0, 16⟩),
  (10, ⟨.str, 0, 16⟩),
  (11, ⟨.str, 0, 16⟩),
  (12, ⟨(.int .u64), 0, 8⟩),
  (13, ⟨(.prod .str (.int .u64)), 2, 24⟩),
  (14, ⟨(.prod .str (.int .u64)), 2, 24⟩),
  (20, ⟨.err, 0, 16⟩),
  (21, ⟨(.int .i32), 0, 4⟩),
  (22, ⟨(.prod .str (.prod .str (.int .i64))), 3, 40⟩),
  (23, ⟨(.prod .str (.prod .str (.int .i64))), 3, 40⟩),
  (24, ⟨(.prod .str .str), 2, 32⟩),
  (25, ⟨(.prod .str .str), 2, 32⟩),
  (28, ⟨(.prod .str (.prod .str (.int .i64))), 3, 40⟩),
  (32, ⟨(.prod .str .str), 2, 32⟩),
  (36, ⟨(.slice 32 (.prod .str .str)), 0, 24⟩),
  (42, ⟨(.slice 5 (.int .u8)), 0, 24⟩),
  (65, ⟨(.slice 3 (.int .i64)), 0, 24⟩),
  (71, ⟨(.int .u64), 0, 8⟩),
  (72, ⟨(.prod (.slice 5 (.int .u8)) (.prod (.int .i64) (.int .u64))), 3, 40⟩),
  (73, ⟨(.prod (.slice 5 (.int .u8)) (.prod (.int .i64) (.int .u64))), 3, 40⟩),
  (88, ⟨(.slice 9 .str), 0, 24⟩),
  (101, ⟨(.int .u64), 0, 8⟩),
  (102, ⟨(.arr 24 (.int .u8)), 0, 24⟩),
  (108, ⟨(.arr 256 .bool), 0, 256⟩),
  (109, ⟨(.arr 256 .bool), 0, 256⟩),
  (115, ⟨(.arr 20 (.int .u64)), 0, 160⟩),
  (116, ⟨(.int .u32), 0, 4⟩),
  (117, ⟨(.arr 65 (.int .u8)), 0, 65⟩),
  (124, ⟨(.arr 32 (.int .u8)), 0, 32⟩),
  (125, ⟨(.arr 64 (.int .u8)), 0, 64⟩),
  (132, ⟨(.int .u8), 0, 1⟩),
  (133, ⟨(.int .u8), 0, 1⟩),
  (136, ⟨(.int .i32), 0, 4⟩),
  (137, ⟨(.int .i32), 0, 4⟩)]
abbrev gm : Nat := 0
instance laidI : Laid Go.Proofs.Tryd.prog := doorLaid Go.Proofs.Tryd.prog gm
theorem tabs : ∀ l, TabOk Go.Proofs.Tryd.prog (ctx tab l) := tab_all (by kernel_rfl)
noncomputable def S7 (N : Nat) : Go.Rx.Spec := ⟨.none, [(.prod .str (.prod .str (.int .i64))), (.int .i64)], (.int .i64), 1, .ro, fun _ x => Px.laws_szLog N x.1 x.2.1⟩
theorem e7 (N : Nat) : evalFn (ctx tab []) N .nil Go.Proofs.Tryd.f7 .none [(.prod .str (.prod .str (.int .i64))), (.int .i64)] (.int .i64) 1 .ro = (S7 N).f := by kernel_rfl
theorem s7 (N : Nat) : Sat Go.Proofs.Tryd.prog 7 (S7 N) := sat_eq (ctx_nil tabs (by kernel_rfl)) Go.Proofs.Tryd.func7 (by kernel_rfl) (by kernel_rfl) (by decide) (by decide) (e7 N)
noncomputable def S10 (N : Nat) : Go.Rx.Spec := ⟨.none, [(.prod .str (.prod .str (.int .i64)))], (.prod .str (.prod .str (.int .i64))), 1, .ro, fun _ x => Px.laws_toLog N x.1⟩
theorem e10 (N : Nat) : evalFn (ctx tab []) N .nil Go.Proofs.Tryd.f10 .none [(.prod .str (.prod .str (.int .i64)))] (.prod .str (.prod .str (.int .i64))) 1 .ro = (S10 N).f := by kernel_rfl
theorem s10 (N : Nat) : Sat Go.Proofs.Tryd.prog 10 (S10 N) := sat_eq (ctx_nil tabs (by kernel_rfl)) Go.Proofs.Tryd.func10 (by kernel_rfl) (by kernel_rfl) (by decide) (by decide) (e10 N)
noncomputable def S65 (N : Nat) : Go.Rx.Spec := ⟨.none, [.str, (.int .u8)], (.slice 9 .str), 1, (.own .ro), fun _ x => Px.spec_l1Split N x.1 x.2.1⟩
theorem e65 (N : Nat) : evalFn (ctx tab []) N (.node none .nil (.node none .nil (.node none .nil (.node none (.node none .nil (.node (some ⟨35, [(0, .val .str), (5, .vw 8 []), (6, .val (.int .i64))], [⟨8, false, false, (.own .ro), (.slice 9 .str)⟩]⟩) (.node (some ⟨35, [(0, .val .str), (1, .val (.int .u8)), (5, .vw 8 []), (6, .val (.int .i64)), (7, .val (.int .i64))], [⟨8, false, false, (.own .ro), (.slice 9 .str)⟩]⟩) .nil .nil) .nil)) .nil)))) Go.Proofs.Tryd.f65 .none [.str, (.int .u8)] (.slice 9 .str) 1 (.own .ro) = (S65 N).f := by kernel_rfl
theorem s65 (N : Nat) : Sat Go.Proofs.Tryd.prog 65 (S65 N) := sat_eq (ctx_nil tabs (by kernel_rfl)) Go.Proofs.Tryd.func65 (by kernel_rfl) (by kernel_rfl) (by decide) (by decide) (e65 N)
noncomputable def S52 (N : Nat) : Go.Rx.Spec := ⟨.none, [(.int .i64), (.int .i64), (.int .i64)], .bool, 1, .ro, fun _ x => Px.spec_l1In N x.1 x.2.1 x.2.2.1⟩
theorem e52 (N : Nat) : evalFn (ctx tab []) N .nil Go.Proofs.Tryd.f52 .none [(.int .i64), (.int .i64), (.int .i64)] .bool 1 .ro = (S52 N).f := by kernel_rfl
theorem s52 (N : Nat) : Sat Go.Proofs.Tryd.prog 52 (S52 N) := sat_eq (ctx_nil tabs (by kernel_rfl)) Go.Proofs.Tryd.func52 (by kernel_rfl) (by kernel_rfl) (by decide) (by decide) (e52 N)
noncomputable def S61 (N : Nat) : Go.Rx.Spec := ⟨.none, [.str, (.int .i64)], .bool, 1, .ro, fun _ x => Px.spec_l12Bytes N x.1 x.2.1⟩
theorem e61 (N : Nat) : evalFn (ctx tab [(52, S52 N)]) N (.node none .nil (.node none (.node none .nil (.node (some ⟨28, [(0, .val .str), (1, .val (.int .i64))], []⟩) (.node (some ⟨28, [(0, .val .str), (1, .val (.int .i64)), (5, .val (.int .i64))], []⟩) .nil .nil) .nil)) .nil)) Go.Proofs.Tryd.f61 .none [.str, (.int .i64)] .bool 1 .ro = (S61 N).f := by kernel_rfl
theorem s61 (N : Nat) : Sat Go.Proofs.Tryd.prog 61 (S61 N) := sat_eq (ctx_cons tabs (ctx_nil tabs (by kernel_rfl)) (s52 N)) Go.Proofs.Tryd.func61 (by kernel_rfl) (by kernel_rfl) (by decide) (by decide) (e61 N)
noncomputable def S62 (N : Nat) : Go.Rx.Spec := ⟨.none, [.str, (.int .u8)], .bool, 1, .ro, fun _ x => Px.spec_l1Stands N x.1 x.2.1⟩
theorem e62 (N : Nat) : evalFn (ctx tab []) N (.node none .nil (.node none (.node none .nil (.node (some ⟨17, [], []⟩) (.node (some ⟨17, [(0, .val .str), (1, .val (.int .u8)), (5, .val (.int .i64))], []⟩) .nil .nil) .nil)) .nil)) Go.Proofs.Tryd.f62 .none [.str, (.int .u8)] .bool 1 .ro = (S62 N).f := by kernel_rfl
theorem s62 (N : Nat) : Sat Go.Proofs.Tryd.prog 62 (S62 N) := sat_eq (ctx_nil tabs (by kernel_rfl)) Go.Proofs.Tryd.func62 (by kernel_rfl) (by kernel_rfl) (by decide) (by decide) (e62 N)
noncomputable def S41 (N : Nat) : Go.Rx.Spec := ⟨.none, [(.prod .str .str)], .bool, 1, .ro, fun _ x => Px.spec_l12Record N x.1⟩
theorem e41 (N : Nat) : evalFn (ctx tab [(61, S61 N), (62, S62 N)]) N .nil Go.Proofs.Tryd.f41 .none [(.prod .str .str)] .bool 1 .ro = (S41 N).f := by kernel_rfl
theorem s41 (N : Nat) : Sat Go.Proofs.Tryd.prog 41 (S41 N) := sat_eq (ctx_cons tabs (ctx_cons tabs (ctx_nil tabs (by kernel_rfl)) (s62 N)) (s61 N)) Go.Proofs.Tryd.func41 (by kernel_rfl) (by kernel_rfl) (by decide) (by decide) (e41 N)
noncomputable def S64 (N : Nat) : Go.Rx.Spec := ⟨.none, [(.int .i64)], .str, 1, .ro, fun _ x => Px.spec_l1Num N x.1⟩
noncomputable def S64R (F : Int → Option (ByteArray × Unit)) : Go.Rx.Spec := ⟨.none, [(.int .i64)], .str, 1, .ro, fun _ x => F x.1⟩
theorem e64 (N : Nat) (kr : Int → Option (ByteArray × Unit)) : evalFn (ctx tab [(64, S64R kr)]) N .nil Go.Proofs.Tryd.f64 .none [(.int .i64)] .str 1 .ro = (S64R (Px.spec_l1Num_F N kr)).f := by kernel_rfl
theorem s64R (N : Nat) : ∀ m : Nat, Sat Go.Proofs.Tryd.prog 64 (S64R (Px.spec_l1Num_R N m))
  | 0 => sat_none Go.Proofs.Tryd.func64 (by kernel_rfl) (by kernel_rfl)
  | m + 1 => by
    have ih := s64R N m
    exact sat_eq (ctx_cons tabs (ctx_nil tabs (by kernel_rfl)) ih) Go.Proofs.Tryd.func64 (by kernel_rfl) (by kernel_rfl) (by decide) (by decide) (e64 N _)
theorem s64 (N : Nat) : Sat Go.Proofs.Tryd.prog 64 (S64 N) := s64R N N
noncomputable def S76 (N : Nat) : Go.Rx.Spec := ⟨.none, [.str], (.int .i64), 1, .ro, fun _ x => Px.spec_l1Sum N x.1⟩
theorem e76 (N : Nat) : evalFn (ctx tab []) N (.node none .nil (.node none .nil (.node none (.node none .nil (.node (some ⟨21, [(3, .val (.int .i64))], []⟩) (.node (some ⟨21, [(0, .val .str), (3, .val (.int .i64)), (4, .val (.int .i64))], []⟩) .nil .nil) .nil)) .nil))) Go.Proofs.Tryd.f76 .none [.str] (.int .i64) 1 .ro = (S76 N).f := by kernel_rfl
theorem s76 (N : Nat) : Sat Go.Proofs.Tryd.prog 76 (S76 N) := sat_eq (ctx_nil tabs (by kernel_rfl)) Go.Proofs.Tryd.func76 (by kernel_rfl) (by kernel_rfl) (by decide) (by decide) (e76 N)
noncomputable def S63 (N : Nat) : Go.Rx.Spec := ⟨.none, [.str], .str, 1, .ro, fun _ x => Px.spec_l1Seal N x.1⟩
theorem e63 (N : Nat) : evalFn (ctx tab [(64, S64 N), (76, S76 N)]) N .nil Go.Proofs.Tryd.f63 .none [.str] .str 1 .ro = (S63 N).f := by kernel_rfl
theorem s63 (N : Nat) : Sat Go.Proofs.Tryd.prog 63 (S63 N) := sat_eq (ctx_cons tabs (ctx_cons tabs (ctx_nil tabs (by kernel_rfl)) (s76 N)) (s64 N)) Go.Proofs.Tryd.func63 (by kernel_rfl) (by kernel_rfl) (by decide) (by decide) (e63 N)
noncomputable def S42 (N : Nat) : Go.Rx.Spec := ⟨.none, [(.int .i64), (.prod .str .str)], .str, 1, .ro, fun _ x => Px.spec_l12Line N x.1 x.2.1⟩
theorem e42 (N : Nat) : evalFn (ctx tab [(63, S63 N), (64, S64 N)]) N .nil Go.Proofs.Tryd.f42 .none [(.int .i64), (.prod .str .str)] .str 1 .ro = (S42 N).f := by kernel_rfl
theorem s42 (N : Nat) : Sat Go.Proofs.Tryd.prog 42 (S42 N) := sat_eq (ctx_cons tabs (ctx_cons tabs (ctx_nil tabs (by kernel_rfl)) (s64 N)) (s63 N)) Go.Proofs.Tryd.func42 (by kernel_rfl) (by kernel_rfl) (by decide) (by decide) (e42 N)
noncomputable def S66 (N : Nat) : Go.Rx.Spec := ⟨.none, [.str, (.int .i64)], (.prod (.prod .str .str) .bool), 2, .ro, fun _ x => Px.spec_l12Decode N x.1 x.2.1⟩
theorem e66 (N : Nat) : evalFn (ctx tab [(41, S41 N), (42, S42 N), (64, S64 N), (65, S65 N)]) N .nil Go.Proofs.Tryd.f66 .none [.str, (.int .i64)] (.prod (.prod .str .str) .bool) 2 .ro = (S66 N).f := by kernel_rfl
theorem s66 (N : Nat) : Sat Go.Proofs.Tryd.prog 66 (S66 N) := sat_eq (ctx_cons tabs (ctx_cons tabs (ctx_cons tabs (ctx_cons tabs (ctx_nil tabs (by kernel_rfl)) (s65 N)) (s64 N)) (s42 N)) (s41 N)) Go.Proofs.Tryd.func66 (by kernel_rfl) (by kernel_rfl) (by decide) (by decide) (e66 N)
noncomputable def S43 (N : Nat) : Go.Rx.Spec := ⟨.none, [.str], (.prod (.slice 32 (.prod .str .str)) (.int .i64)), 2, (.pr (.own .ro) .ro), fun _ x => Px.spec_l12Open N x.1⟩
theorem e43 (N : Nat) : evalFn (ctx tab [(65, S65 N), (66, S66 N)]) N (.node none .nil (.node none .nil (.node none .nil (.node none (.node (some ⟨52, [(4, .vw 9 []), (5, .val (.int .i64))], [⟨9, false, false, (.own .ro), (.slice 32 (.prod .str .str))⟩]⟩) (.node (some ⟨52, [(0, .val .str), (4, .vw 9 []), (5, .val (.int .i64))], [⟨9, false, false, (.own .ro), (.slice 32 (.prod .str .str))⟩]⟩) .nil .nil) .nil) .nil)))) Go.Proofs.Tryd.f43 .none [.str] (.prod (.slice 32 (.prod .str .str)) (.int .i64)) 2 (.pr (.own .ro) .ro) = (S43 N).f := by kernel_rfl
theorem s43 (N : Nat) : Sat Go.Proofs.Tryd.prog 43 (S43 N) := sat_eq (ctx_cons tabs (ctx_cons tabs (ctx_nil tabs (by kernel_rfl)) (s66 N)) (s65 N)) Go.Proofs.Tryd.func43 (by kernel_rfl) (by kernel_rfl) (by decide) (by decide) (e43 N)
noncomputable def S40 (N : Nat) : Go.Rx.Spec := ⟨.none, [(.prod .str (.prod .str (.int .i64)))], .bool, 1, .ro, fun _ x => Px.spec_l12Valid N x.1⟩
theorem e40 (N : Nat) : evalFn (ctx tab [(43, S43 N)]) N .nil Go.Proofs.Tryd.f40 .none [(.prod .str (.prod .str (.int .i64)))] .bool 1 .ro = (S40 N).f := by kernel_rfl
theorem s40 (N : Nat) : Sat Go.Proofs.Tryd.prog 40 (S40 N) := sat_eq (ctx_cons tabs (ctx_nil tabs (by kernel_rfl)) (s43 N)) Go.Proofs.Tryd.func40 (by kernel_rfl) (by kernel_rfl) (by decide) (by decide) (e40 N)
noncomputable def S14 (N : Nat) : Go.Rx.Spec := ⟨.none, [(.prod .str (.prod .str (.int .i64)))], (.prod (.slice 32 (.prod .str .str)) .bool), 2, (.pr (.own .ro) .ro), fun _ x => Px.spec_LogRecords N x.1⟩
theorem e14 (N : Nat) : evalFn (ctx tab [(40, S40 N), (43, S43 N)]) N .nil Go.Proofs.Tryd.f14 .none [(.prod .str (.prod .str (.int .i64)))] (.prod (.slice 32 (.prod .str .str)) .bool) 2 (.pr (.own .ro) .ro) = (S14 N).f := by kernel_rfl
theorem s14 (N : Nat) : Sat Go.Proofs.Tryd.prog 14 (S14 N) := sat_eq (ctx_cons tabs (ctx_cons tabs (ctx_nil tabs (by kernel_rfl)) (s43 N)) (s40 N)) Go.Proofs.Tryd.func14 (by kernel_rfl) (by kernel_rfl) (by decide) (by decide) (e14 N)
noncomputable def S74 (N : Nat) : Go.Rx.Spec := ⟨.none, [.str, .str], .bool, 1, .ro, fun _ x => Px.strings_ContainsAny N x.1 x.2.1⟩
theorem s74 (N : Nat) : Sat Go.Proofs.Tryd.prog 74 (S74 N) := sat_containsAny Go.Proofs.Tryd.func74 (by kernel_rfl) (by kernel_rfl) Go.Proofs.Tryd.strings_ContainsAny_laid
noncomputable def S57 (N : Nat) : Go.Rx.Spec := ⟨.none, [.str, (.int .i64), .str], .bool, 1, .ro, fun _ x => Px.impl_isPlain N x.1 x.2.1 x.2.2.1⟩
theorem e57 (N : Nat) : evalFn (ctx tab [(74, S74 N)]) N (.node none .nil (.node none (.node none .nil (.node (some ⟨34, [(0, .val .str), (1, .val (.int .i64)), (2, .val .str)], []⟩) (.node (some ⟨34, [(0, .val .str), (1, .val (.int .i64)), (2, .val .str), (9, .val (.int .i64)), (10, .val (.int .i64))], []⟩) .nil .nil) .nil)) .nil)) Go.Proofs.Tryd.f57 .none [.str, (.int .i64), .str] .bool 1 .ro = (S57 N).f := by kernel_rfl
theorem s57 (N : Nat) : Sat Go.Proofs.Tryd.prog 57 (S57 N) := sat_eq (ctx_cons tabs (ctx_nil tabs (by kernel_rfl)) (s74 N)) Go.Proofs.Tryd.func57 (by kernel_rfl) (by kernel_rfl) (by decide) (by decide) (e57 N)
noncomputable def S56 (N : Nat) : Go.Rx.Spec := ⟨.none, [.str], .bool, 1, .ro, fun _ x => Px.impl_isCommand N x.1⟩
theorem e56 (N : Nat) : evalFn (ctx tab [(57, S57 N)]) N .nil Go.Proofs.Tryd.f56 .none [.str] .bool 1 .ro = (S56 N).f := by kernel_rfl
theorem s56 (N : Nat) : Sat Go.Proofs.Tryd.prog 56 (S56 N) := sat_eq (ctx_cons tabs (ctx_nil tabs (by kernel_rfl)) (s57 N)) Go.Proofs.Tryd.func56 (by kernel_rfl) (by kernel_rfl) (by decide) (by decide) (e56 N)
noncomputable def S27 (N : Nat) : Go.Rx.Spec := ⟨.none, [(.prod .str .str)], .bool, 1, .ro, fun _ x => Px.impl_IsValidRecord N x.1⟩
theorem e27 (N : Nat) : evalFn (ctx tab [(56, S56 N), (57, S57 N)]) N .nil Go.Proofs.Tryd.f27 .none [(.prod .str .str)] .bool 1 .ro = (S27 N).f := by kernel_rfl
theorem s27 (N : Nat) : Sat Go.Proofs.Tryd.prog 27 (S27 N) := sat_eq (ctx_cons tabs (ctx_cons tabs (ctx_nil tabs (by kernel_rfl)) (s57 N)) (s56 N)) Go.Proofs.Tryd.func27 (by kernel_rfl) (by kernel_rfl) (by decide) (by decide) (e27 N)
noncomputable def S49 (N : Nat) : Go.Rx.Spec := ⟨.none, [(.int .i64), (.int .i64), (.int .i64)], .bool, 1, .ro, fun _ x => Px.impl_within N x.1 x.2.1 x.2.2.1⟩
theorem e49 (N : Nat) : evalFn (ctx tab []) N .nil Go.Proofs.Tryd.f49 .none [(.int .i64), (.int .i64), (.int .i64)] .bool 1 .ro = (S49 N).f := by kernel_rfl
theorem s49 (N : Nat) : Sat Go.Proofs.Tryd.prog 49 (S49 N) := sat_eq (ctx_nil tabs (by kernel_rfl)) Go.Proofs.Tryd.func49 (by kernel_rfl) (by kernel_rfl) (by decide) (by decide) (e49 N)
noncomputable def S51 (N : Nat) : Go.Rx.Spec := ⟨.none, [(.int .i64)], .str, 1, .ro, fun _ x => Px.strconv_Itoa N x.1⟩
theorem s51 (N : Nat) : Sat Go.Proofs.Tryd.prog 51 (S51 N) := sat_itoa gm Go.Proofs.Tryd.func51 (by kernel_rfl) (by kernel_rfl) Go.Proofs.Tryd.strconv_Itoa
noncomputable def S70 (N : Nat) : Go.Rx.Spec := ⟨.none, [.str, .str], .bool, 1, .ro, fun _ x => Px.strings_Contains N x.1 x.2.1⟩
theorem s70 (N : Nat) : Sat Go.Proofs.Tryd.prog 70 (S70 N) := sat_contains gm Go.Proofs.Tryd.func70 (by kernel_rfl) (by kernel_rfl) Go.Proofs.Tryd.strings_Contains
noncomputable def S71 (N : Nat) : Go.Rx.Spec := ⟨.none, [.str], (.int .i64), 1, .ro, fun _ x => Px.impl_checksum N x.1⟩
theorem e71 (N : Nat) : evalFn (ctx tab []) N (.node none .nil (.node none .nil (.node none (.node none .nil (.node (some ⟨21, [(3, .val (.int .i64))], []⟩) (.node (some ⟨21, [(0, .val .str), (3, .val (.int .i64)), (6, .val (.int .i64)), (7, .val (.int .i64))], []⟩) .nil .nil) .nil)) .nil))) Go.Proofs.Tryd.f71 .none [.str] (.int .i64) 1 .ro = (S71 N).f := by kernel_rfl
theorem s71 (N : Nat) : Sat Go.Proofs.Tryd.prog 71 (S71 N) := sat_eq (ctx_nil tabs (by kernel_rfl)) Go.Proofs.Tryd.func71 (by kernel_rfl) (by kernel_rfl) (by decide) (by decide) (e71 N)
noncomputable def S50 (N : Nat) : Go.Rx.Spec := ⟨.none, [.str], (.prod .str .bool), 2, .ro, fun _ x => Px.impl_AppendChecksum N x.1⟩
theorem e50 (N : Nat) : evalFn (ctx tab [(51, S51 N), (70, S70 N), (71, S71 N)]) N .nil Go.Proofs.Tryd.f50 .none [.str] (.prod .str .bool) 2 .ro = (S50 N).f := by kernel_rfl
theorem s50 (N : Nat) : Sat Go.Proofs.Tryd.prog 50 (S50 N) := sat_eq (ctx_cons tabs (ctx_cons tabs (ctx_cons tabs (ctx_nil tabs (by kernel_rfl)) (s71 N)) (s70 N)) (s51 N)) Go.Proofs.Tryd.func50 (by kernel_rfl) (by kernel_rfl) (by decide) (by decide) (e50 N)
noncomputable def S23 (N : Nat) : Go.Rx.Spec := ⟨.none, [(.int .i64), (.prod .str .str)], (.prod .str .bool), 2, .ro, fun _ x => Px.impl_EncodeRecord N x.1 x.2.1⟩
theorem e23 (N : Nat) : evalFn (ctx tab [(27, S27 N), (49, S49 N), (50, S50 N), (51, S51 N)]) N .nil Go.Proofs.Tryd.f23 .none [(.int .i64), (.prod .str .str)] (.prod .str .bool) 2 .ro = (S23 N).f := by kernel_rfl
theorem s23 (N : Nat) : Sat Go.Proofs.Tryd.prog 23 (S23 N) := sat_eq (ctx_cons tabs (ctx_cons tabs (ctx_cons tabs (ctx_cons tabs (ctx_nil tabs (by kernel_rfl)) (s51 N)) (s50 N)) (s49 N)) (s27 N)) Go.Proofs.Tryd.func23 (by kernel_rfl) (by kernel_rfl) (by decide) (by decide) (e23 N)
noncomputable def S67 (N : Nat) : Go.Rx.Spec := ⟨.none, [.str, .str], (.prod .str (.prod .str .bool)), 3, .ro, fun _ x => Px.strings_Cut N x.1 x.2.1⟩
theorem s67 (N : Nat) : Sat Go.Proofs.Tryd.prog 67 (S67 N) := sat_cut gm Go.Proofs.Tryd.func67 (by kernel_rfl) (by kernel_rfl) Go.Proofs.Tryd.strings_Cut
noncomputable def S68 (N : Nat) : Go.Rx.Spec := ⟨.none, [.str], (.prod .str .bool), 2, .ro, fun _ x => Px.impl_VerifyChecksum N x.1⟩
theorem e68 (N : Nat) : evalFn (ctx tab [(50, S50 N), (67, S67 N)]) N .nil Go.Proofs.Tryd.f68 .none [.str] (.prod .str .bool) 2 .ro = (S68 N).f := by kernel_rfl
theorem s68 (N : Nat) : Sat Go.Proofs.Tryd.prog 68 (S68 N) := sat_eq (ctx_cons tabs (ctx_cons tabs (ctx_nil tabs (by kernel_rfl)) (s67 N)) (s50 N)) Go.Proofs.Tryd.func68 (by kernel_rfl) (by kernel_rfl) (by decide) (by decide) (e68 N)
noncomputable def S44 (N : Nat) : Go.Rx.Spec := ⟨.none, [.str], (.prod (.slice 32 (.prod .str .str)) (.slice 3 (.int .i64))), 2, (.pr (.own .ro) (.own .ro)), fun _ x => Px.impl_readRecords N x.1⟩
theorem e44 (N : Nat) : evalFn (ctx tab [(23, S23 N), (67, S67 N), (68, S68 N)]) N (.node none .nil (.node none .nil (.node none (.node (some ⟨83, [(4, .vw 18 []), (5, .vw 19 [])], [⟨18, false, false, (.own .ro), (.slice 32 (.prod .str .str))⟩, ⟨19, false, false, (.own .ro), (.slice 3 (.int .i64))⟩]⟩) (.node (some ⟨83, [(0, .val .str), (4, .vw 18 []), (5, .vw 19 []), (6, .val (.int .i64))], [⟨18, false, false, (.own .ro), (.slice 32 (.prod .str .str))⟩, ⟨19, false, false, (.own .ro), (.slice 3 (.int .i64))⟩]⟩) .nil .nil) .nil) .nil))) Go.Proofs.Tryd.f44 .none [.str] (.prod (.slice 32 (.prod .str .str)) (.slice 3 (.int .i64))) 2 (.pr (.own .ro) (.own .ro)) = (S44 N).f := by kernel_rfl
theorem s44 (N : Nat) : Sat Go.Proofs.Tryd.prog 44 (S44 N) := sat_eq (ctx_cons tabs (ctx_cons tabs (ctx_cons tabs (ctx_nil tabs (by kernel_rfl)) (s68 N)) (s67 N)) (s23 N)) Go.Proofs.Tryd.func44 (by kernel_rfl) (by kernel_rfl) (by decide) (by decide) (e44 N)
noncomputable def S75 (N : Nat) : Go.Rx.Spec := ⟨.none, [(.slice 3 (.int .i64)), (.int .i64)], (.int .i64), 1, .ro, fun _ x => Px.slices_Index_int_int N x.1 x.2.1⟩
theorem e75 (N : Nat) : evalFn (ctx tab []) N (.node none .nil (.node none (.node none .nil (.node (some ⟨19, [], []⟩) (.node (some ⟨19, [(0, .val (.slice 3 (.int .i64))), (1, .val (.int .i64)), (7, .val (.int .i64)), (8, .val (.int .i64))], []⟩) .nil .nil) .nil)) .nil)) Go.Proofs.Tryd.f75 .none [(.slice 3 (.int .i64)), (.int .i64)] (.int .i64) 1 .ro = (S75 N).f := by kernel_rfl
theorem s75 (N : Nat) : Sat Go.Proofs.Tryd.prog 75 (S75 N) := sat_eq (ctx_nil tabs (by kernel_rfl)) Go.Proofs.Tryd.func75 (by kernel_rfl) (by kernel_rfl) (by decide) (by decide) (e75 N)
noncomputable def S58 (N : Nat) : Go.Rx.Spec := ⟨.none, [(.slice 3 (.int .i64)), (.int .i64)], .bool, 1, .ro, fun _ x => Px.slices_Contains_int_int N x.1 x.2.1⟩
theorem e58 (N : Nat) : evalFn (ctx tab [(75, S75 N)]) N .nil Go.Proofs.Tryd.f58 .none [(.slice 3 (.int .i64)), (.int .i64)] .bool 1 .ro = (S58 N).f := by kernel_rfl
theorem s58 (N : Nat) : Sat Go.Proofs.Tryd.prog 58 (S58 N) := sat_eq (ctx_cons tabs (ctx_nil tabs (by kernel_rfl)) (s75 N)) Go.Proofs.Tryd.func58 (by kernel_rfl) (by kernel_rfl) (by decide) (by decide) (e58 N)
noncomputable def S29 (N : Nat) : Go.Rx.Spec := ⟨.none, [(.prod .str (.prod .str (.int .i64)))], .bool, 1, .ro, fun _ x => Px.impl_IsValidLog N x.1⟩
theorem e29 (N : Nat) : evalFn (ctx tab [(44, S44 N), (58, S58 N)]) N .nil Go.Proofs.Tryd.f29 .none [(.prod .str (.prod .str (.int .i64)))] .bool 1 .ro = (S29 N).f := by kernel_rfl
theorem s29 (N : Nat) : Sat Go.Proofs.Tryd.prog 29 (S29 N) := sat_eq (ctx_cons tabs (ctx_cons tabs (ctx_nil tabs (by kernel_rfl)) (s58 N)) (s44 N)) Go.Proofs.Tryd.func29 (by kernel_rfl) (by kernel_rfl) (by decide) (by decide) (e29 N)
noncomputable def S15 (N : Nat) : Go.Rx.Spec := ⟨.none, [(.prod .str (.prod .str (.int .i64)))], (.prod (.slice 32 (.prod .str .str)) .bool), 2, (.pr (.own .ro) .ro), fun _ x => Px.impl_LogRecords N x.1⟩
theorem e15 (N : Nat) : evalFn (ctx tab [(29, S29 N), (44, S44 N)]) N .nil Go.Proofs.Tryd.f15 .none [(.prod .str (.prod .str (.int .i64)))] (.prod (.slice 32 (.prod .str .str)) .bool) 2 (.pr (.own .ro) .ro) = (S15 N).f := by kernel_rfl
theorem s15 (N : Nat) : Sat Go.Proofs.Tryd.prog 15 (S15 N) := sat_eq (ctx_cons tabs (ctx_cons tabs (ctx_nil tabs (by kernel_rfl)) (s44 N)) (s29 N)) Go.Proofs.Tryd.func15 (by kernel_rfl) (by kernel_rfl) (by decide) (by decide) (e15 N)
noncomputable def S45 (N : Nat) : Go.Rx.Spec := ⟨.none, [(.prod .str .str), (.prod .str .str)], .bool, 1, .ro, fun _ x => Px.laws_eqLogRecord N x.1 x.2.1⟩
theorem e45 (N : Nat) : evalFn (ctx tab []) N .nil Go.Proofs.Tryd.f45 .none [(.prod .str .str), (.prod .str .str)] .bool 1 .ro = (S45 N).f := by kernel_rfl
theorem s45 (N : Nat) : Sat Go.Proofs.Tryd.prog 45 (S45 N) := sat_eq (ctx_nil tabs (by kernel_rfl)) Go.Proofs.Tryd.func45 (by kernel_rfl) (by kernel_rfl) (by decide) (by decide) (e45 N)
noncomputable def S16 (N : Nat) : Go.Rx.Spec := ⟨.none, [(.slice 32 (.prod .str .str)), (.slice 32 (.prod .str .str))], .bool, 1, .ro, fun _ x => Px.laws_eqLogRecordS N x.1 x.2.1⟩
theorem e16 (N : Nat) : evalFn (ctx tab [(45, S45 N)]) N (.node none .nil (.node none .nil (.node none (.node none .nil (.node (some ⟨27, [], []⟩) (.node (some ⟨27, [(0, .val (.slice 32 (.prod .str .str))), (1, .val (.slice 32 (.prod .str .str))), (5, .val (.int .i64))], []⟩) .nil .nil) .nil)) .nil))) Go.Proofs.Tryd.f16 .none [(.slice 32 (.prod .str .str)), (.slice 32 (.prod .str .str))] .bool 1 .ro = (S16 N).f := by kernel_rfl
theorem s16 (N : Nat) : Sat Go.Proofs.Tryd.prog 16 (S16 N) := sat_eq (ctx_cons tabs (ctx_nil tabs (by kernel_rfl)) (s45 N)) Go.Proofs.Tryd.func16 (by kernel_rfl) (by kernel_rfl) (by decide) (by decide) (e16 N)
noncomputable def S46 (N : Nat) : Go.Rx.Spec := ⟨.none, [(.int .i64)], .str, 1, .ro, fun _ x => Px.laws_markText N x.1⟩
theorem e46 (N : Nat) : evalFn (ctx tab []) N (.node none .nil (.node none .nil (.node none .nil (.node none (.node (some ⟨20, [(3, .val .str)], []⟩) (.node (some ⟨20, [(0, .val (.int .i64)), (3, .val .str)], []⟩) .nil .nil) .nil) .nil)))) Go.Proofs.Tryd.f46 .none [(.int .i64)] .str 1 .ro = (S46 N).f := by kernel_rfl
theorem s46 (N : Nat) : Sat Go.Proofs.Tryd.prog 46 (S46 N) := sat_eq (ctx_nil tabs (by kernel_rfl)) Go.Proofs.Tryd.func46 (by kernel_rfl) (by kernel_rfl) (by decide) (by decide) (e46 N)
noncomputable def S17 (N : Nat) : Go.Rx.Spec := ⟨(.«mut» (.slice 32 (.prod .str .str)) (.own .ro) (.own .ro)), [(.int .i64)], (.int .i64), 1, .ro, fun g x => Px.laws_markLogRecordS N g x.1⟩
theorem e17 (N : Nat) : evalFn (ctx tab [(46, S46 N)]) N (.node none .nil (.node none (.node none .nil (.node (some ⟨29, [(0, .vw 0 []), (1, .val (.int .i64))], [⟨0, false, false, (.own .ro), (.slice 32 (.prod .str .str))⟩]⟩) (.node (some ⟨29, [(0, .vw 0 []), (1, .val (.int .i64)), (5, .val (.int .i64))], [⟨0, false, false, (.own .ro), (.slice 32 (.prod .str .str))⟩]⟩) .nil .nil) .nil)) .nil)) Go.Proofs.Tryd.f17 (.«mut» (.slice 32 (.prod .str .str)) (.own .ro) (.own .ro)) [(.int .i64)] (.int .i64) 1 .ro = (S17 N).f := by kernel_rfl
theorem s17 (N : Nat) : Sat Go.Proofs.Tryd.prog 17 (S17 N) := sat_eq (ctx_cons tabs (ctx_nil tabs (by kernel_rfl)) (s46 N)) Go.Proofs.Tryd.func17 (by kernel_rfl) (by kernel_rfl) (by decide) (by decide) (e17 N)
noncomputable def S18 (N : Nat) : Go.Rx.Spec := ⟨.none, [(.slice 32 (.prod .str .str)), (.int .i64)], (.int .i64), 1, .ro, fun _ x => Px.laws_heldLogRecordS N x.1 x.2.1⟩
theorem e18 (N : Nat) : evalFn (ctx tab [(46, S46 N)]) N (.node none .nil (.node none (.node none .nil (.node (some ⟨33, [(1, .val (.int .i64))], []⟩) (.node (some ⟨33, [(0, .val (.slice 32 (.prod .str .str))), (1, .val (.int .i64)), (5, .val (.int .i64))], []⟩) .nil .nil) .nil)) .nil)) Go.Proofs.Tryd.f18 .none [(.slice 32 (.prod .str .str)), (.int .i64)] (.int .i64) 1 .ro = (S18 N).f := by kernel_rfl
theorem s18 (N : Nat) : Sat Go.Proofs.Tryd.prog 18 (S18 N) := sat_eq (ctx_cons tabs (ctx_nil tabs (by kernel_rfl)) (s46 N)) Go.Proofs.Tryd.func18 (by kernel_rfl) (by kernel_rfl) (by decide) (by decide) (e18 N)
noncomputable def S4 (N : Nat) : Go.Rx.Spec := ⟨.none, [(.prod .str (.prod .str (.int .i64)))], .bool, 1, .ro, fun _ x => Px.laws_FnExactLogRecords N x.1⟩
theorem e4 (N : Nat) : evalFn (ctx tab [(7, S7 N), (10, S10 N), (14, S14 N), (15, S15 N), (16, S16 N), (17, S17 N), (18, S18 N)]) N .nil Go.Proofs.Tryd.f4 .none [(.prod .str (.prod .str (.int .i64)))] .bool 1 .ro = (S4 N).f := by kernel_rfl
theorem s4 (N : Nat) : Sat Go.Proofs.Tryd.prog 4 (S4 N) := sat_eq (ctx_cons tabs (ctx_cons tabs (ctx_cons tabs (ctx_cons tabs (ctx_cons tabs (ctx_cons tabs (ctx_cons tabs (ctx_nil tabs (by kernel_rfl)) (s18 N)) (s17 N)) (s16 N)) (s15 N)) (s14 N)) (s10 N)) (s7 N)) Go.Proofs.Tryd.func4 (by kernel_rfl) (by kernel_rfl) (by decide) (by decide) (e4 N)
end Go.Proofs.YtgomnphmcnmodaaDoor.RsFnExactLogRecords
