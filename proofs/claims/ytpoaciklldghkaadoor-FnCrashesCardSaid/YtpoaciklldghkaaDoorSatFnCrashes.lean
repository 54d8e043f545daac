/- This text proves that the Go functions behind FnCrashes compute the plain functions; no condition. -/
import Derived.Test.YtpoaciklldghkaaDoorProg
import Derived.Test.YtpoaciklldghkaaDoorPxFnCrashes
import Derived.Test.YtpoaciklldghkaaDoorLayFnCrashes
set_option linter.unusedVariables false
set_option linter.unusedSimpArgs false
namespace Go.Proofs.YtpoaciklldghkaaDoor.RsFnCrashes
open Go.Rx
def tab : List (Nat × TI) := [
  (2, ⟨(.int .i64), 0, 8⟩),
  (3, ⟨(.int .i64), 0, 8⟩),
  (4, ⟨.bool, 0, 1⟩),
  (5, ⟨(.int .u8), 0, 1⟩),
  (6, ⟨(.int .u8), 0, 1⟩),
  (7, ⟨(.prod (.int .i64) (.prod (.int .i64) (.prod .bool (.int .u8)))), 4, 24⟩),
  (8, ⟨(.prod (.int .i64) (.prod (.int .i64) (.prod .bool (.int .u8)))), 4, 24⟩),
  (9, ⟨.str, 0, 16⟩),
  (10, ⟨.str, 0, 16⟩),
  (11, ⟨.str, 0, 16⟩),
  (12, ⟨(.int .u64), 0, 8⟩),
  (20, ⟨.err, 0, 16⟩),
  (21, ⟨(.int .i32), 0, 4⟩),
  (22, ⟨(.prod .str (.prod .str (.int .i64))), 3, 40⟩),
  (23, ⟨(.prod .str (.prod .str (.int .i64))), 3, 40⟩),
  (27, ⟨(.prod .str (.prod .str (.int .i64))), 3, 40⟩),
  (30, ⟨(.slice 5 (.int .u8)), 0, 24⟩),
  (32, ⟨(.prod .str .str), 2, 32⟩),
  (33, ⟨(.prod .str .str), 2, 32⟩),
  (48, ⟨(.slice 33 (.prod .str .str)), 0, 24⟩),
  (58, ⟨(.int .u64), 0, 8⟩),
  (59, ⟨(.prod (.slice 5 (.int .u8)) (.prod (.int .i64) (.int .u64))), 3, 40⟩),
  (60, ⟨(.prod (.slice 5 (.int .u8)) (.prod (.int .i64) (.int .u64))), 3, 40⟩),
  (63, ⟨(.slice 3 (.int .i64)), 0, 24⟩),
  (79, ⟨(.slice 9 .str), 0, 24⟩),
  (94, ⟨(.int .u64), 0, 8⟩),
  (95, ⟨(.arr 24 (.int .u8)), 0, 24⟩),
  (101, ⟨(.arr 256 .bool), 0, 256⟩),
  (102, ⟨(.arr 256 .bool), 0, 256⟩),
  (108, ⟨(.arr 20 (.int .u64)), 0, 160⟩),
  (109, ⟨(.int .u32), 0, 4⟩),
  (110, ⟨(.arr 65 (.int .u8)), 0, 65⟩),
  (117, ⟨(.arr 32 (.int .u8)), 0, 32⟩),
  (118, ⟨(.arr 64 (.int .u8)), 0, 64⟩),
  (125, ⟨(.int .u8), 0, 1⟩),
  (126, ⟨(.int .u8), 0, 1⟩),
  (129, ⟨(.int .i32), 0, 4⟩),
  (130, ⟨(.int .i32), 0, 4⟩)]
abbrev gm : Nat := 0
instance laidI : Laid Go.Proofs.Tryd.prog := doorLaid Go.Proofs.Tryd.prog gm
theorem tabs : ∀ l, TabOk Go.Proofs.Tryd.prog (ctx tab l) := tab_all (by kernel_rfl)
noncomputable def S65 (N : Nat) : Go.Rx.Spec := ⟨.none, [.str, (.int .u8)], (.slice 9 .str), 1, (.own .ro), fun _ x => Px.spec_l1Split N x.1 x.2.1⟩
theorem e65 (N : Nat) : evalFn (ctx tab []) N (.node none .nil (.node none .nil (.node none .nil (.node none (.node none .nil (.node (some ⟨35, [(0, .val .str), (5, .vw 8 []), (6, .val (.int .i64))], [⟨8, false, false, (.own .ro), (.slice 9 .str)⟩]⟩) (.node (some ⟨35, [(0, .val .str), (1, .val (.int .u8)), (5, .vw 8 []), (6, .val (.int .i64)), (7, .val (.int .i64))], [⟨8, false, false, (.own .ro), (.slice 9 .str)⟩]⟩) .nil .nil) .nil)) .nil)))) Go.Proofs.Tryd.f65 .none [.str, (.int .u8)] (.slice 9 .str) 1 (.own .ro) = (S65 N).f := by kernel_rfl
theorem s65 (N : Nat) : Sat Go.Proofs.Tryd.prog 65 (S65 N) := sat_eq (ctx_nil tabs (by kernel_rfl)) Go.Proofs.Tryd.func65 (by kernel_rfl) (by kernel_rfl) (by decide) (by decide) (e65 N)
noncomputable def S34 (N : Nat) : Go.Rx.Spec := ⟨.none, [(.int .i64), (.int .i64), (.int .i64)], .bool, 1, .ro, fun _ x => Px.spec_l1In N x.1 x.2.1 x.2.2.1⟩
theorem e34 (N : Nat) : evalFn (ctx tab []) N .nil Go.Proofs.Tryd.f34 .none [(.int .i64), (.int .i64), (.int .i64)] .bool 1 .ro = (S34 N).f := by kernel_rfl
theorem s34 (N : Nat) : Sat Go.Proofs.Tryd.prog 34 (S34 N) := sat_eq (ctx_nil tabs (by kernel_rfl)) Go.Proofs.Tryd.func34 (by kernel_rfl) (by kernel_rfl) (by decide) (by decide) (e34 N)
noncomputable def S56 (N : Nat) : Go.Rx.Spec := ⟨.none, [.str, (.int .i64)], .bool, 1, .ro, fun _ x => Px.spec_l12Bytes N x.1 x.2.1⟩
theorem e56 (N : Nat) : evalFn (ctx tab [(34, S34 N)]) N (.node none .nil (.node none (.node none .nil (.node (some ⟨28, [(0, .val .str), (1, .val (.int .i64))], []⟩) (.node (some ⟨28, [(0, .val .str), (1, .val (.int .i64)), (5, .val (.int .i64))], []⟩) .nil .nil) .nil)) .nil)) Go.Proofs.Tryd.f56 .none [.str, (.int .i64)] .bool 1 .ro = (S56 N).f := by kernel_rfl
theorem s56 (N : Nat) : Sat Go.Proofs.Tryd.prog 56 (S56 N) := sat_eq (ctx_cons tabs (ctx_nil tabs (by kernel_rfl)) (s34 N)) Go.Proofs.Tryd.func56 (by kernel_rfl) (by kernel_rfl) (by decide) (by decide) (e56 N)
noncomputable def S57 (N : Nat) : Go.Rx.Spec := ⟨.none, [.str, (.int .u8)], .bool, 1, .ro, fun _ x => Px.spec_l1Stands N x.1 x.2.1⟩
theorem e57 (N : Nat) : evalFn (ctx tab []) N (.node none .nil (.node none (.node none .nil (.node (some ⟨17, [], []⟩) (.node (some ⟨17, [(0, .val .str), (1, .val (.int .u8)), (5, .val (.int .i64))], []⟩) .nil .nil) .nil)) .nil)) Go.Proofs.Tryd.f57 .none [.str, (.int .u8)] .bool 1 .ro = (S57 N).f := by kernel_rfl
theorem s57 (N : Nat) : Sat Go.Proofs.Tryd.prog 57 (S57 N) := sat_eq (ctx_nil tabs (by kernel_rfl)) Go.Proofs.Tryd.func57 (by kernel_rfl) (by kernel_rfl) (by decide) (by decide) (e57 N)
noncomputable def S40 (N : Nat) : Go.Rx.Spec := ⟨.none, [(.prod .str .str)], .bool, 1, .ro, fun _ x => Px.spec_l12Record N x.1⟩
theorem e40 (N : Nat) : evalFn (ctx tab [(56, S56 N), (57, S57 N)]) N .nil Go.Proofs.Tryd.f40 .none [(.prod .str .str)] .bool 1 .ro = (S40 N).f := by kernel_rfl
theorem s40 (N : Nat) : Sat Go.Proofs.Tryd.prog 40 (S40 N) := sat_eq (ctx_cons tabs (ctx_cons tabs (ctx_nil tabs (by kernel_rfl)) (s57 N)) (s56 N)) Go.Proofs.Tryd.func40 (by kernel_rfl) (by kernel_rfl) (by decide) (by decide) (e40 N)
noncomputable def S59 (N : Nat) : Go.Rx.Spec := ⟨.none, [(.int .i64)], .str, 1, .ro, fun _ x => Px.spec_l1Num N x.1⟩
noncomputable def S59R (F : Int → Option (ByteArray × Unit)) : Go.Rx.Spec := ⟨.none, [(.int .i64)], .str, 1, .ro, fun _ x => F x.1⟩
theorem e59 (N : Nat) (kr : Int → Option (ByteArray × Unit)) : evalFn (ctx tab [(59, S59R kr)]) N .nil Go.Proofs.Tryd.f59 .none [(.int .i64)] .str 1 .ro = (S59R (Px.spec_l1Num_F N kr)).f := by kernel_rfl
theorem s59R (N : Nat) : ∀ m : Nat, Sat Go.Proofs.Tryd.prog 59 (S59R (Px.spec_l1Num_R N m))
  | 0 => sat_none Go.Proofs.Tryd.func59 (by kernel_rfl) (by kernel_rfl)
  | m + 1 => by
    have ih := s59R N m
    exact sat_eq (ctx_cons tabs (ctx_nil tabs (by kernel_rfl)) ih) Go.Proofs.Tryd.func59 (by kernel_rfl) (by kernel_rfl) (by decide) (by decide) (e59 N _)
theorem s59 (N : Nat) : Sat Go.Proofs.Tryd.prog 59 (S59 N) := s59R N N
noncomputable def S69 (N : Nat) : Go.Rx.Spec := ⟨.none, [.str], (.int .i64), 1, .ro, fun _ x => Px.spec_l1Sum N x.1⟩
theorem e69 (N : Nat) : evalFn (ctx tab []) N (.node none .nil (.node none .nil (.node none (.node none .nil (.node (some ⟨21, [(3, .val (.int .i64))], []⟩) (.node (some ⟨21, [(0, .val .str), (3, .val (.int .i64)), (4, .val (.int .i64))], []⟩) .nil .nil) .nil)) .nil))) Go.Proofs.Tryd.f69 .none [.str] (.int .i64) 1 .ro = (S69 N).f := by kernel_rfl
theorem s69 (N : Nat) : Sat Go.Proofs.Tryd.prog 69 (S69 N) := sat_eq (ctx_nil tabs (by kernel_rfl)) Go.Proofs.Tryd.func69 (by kernel_rfl) (by kernel_rfl) (by decide) (by decide) (e69 N)
noncomputable def S58 (N : Nat) : Go.Rx.Spec := ⟨.none, [.str], .str, 1, .ro, fun _ x => Px.spec_l1Seal N x.1⟩
theorem e58 (N : Nat) : evalFn (ctx tab [(59, S59 N), (69, S69 N)]) N .nil Go.Proofs.Tryd.f58 .none [.str] .str 1 .ro = (S58 N).f := by kernel_rfl
theorem s58 (N : Nat) : Sat Go.Proofs.Tryd.prog 58 (S58 N) := sat_eq (ctx_cons tabs (ctx_cons tabs (ctx_nil tabs (by kernel_rfl)) (s69 N)) (s59 N)) Go.Proofs.Tryd.func58 (by kernel_rfl) (by kernel_rfl) (by decide) (by decide) (e58 N)
noncomputable def S41 (N : Nat) : Go.Rx.Spec := ⟨.none, [(.int .i64), (.prod .str .str)], .str, 1, .ro, fun _ x => Px.spec_l12Line N x.1 x.2.1⟩
theorem e41 (N : Nat) : evalFn (ctx tab [(58, S58 N), (59, S59 N)]) N .nil Go.Proofs.Tryd.f41 .none [(.int .i64), (.prod .str .str)] .str 1 .ro = (S41 N).f := by kernel_rfl
theorem s41 (N : Nat) : Sat Go.Proofs.Tryd.prog 41 (S41 N) := sat_eq (ctx_cons tabs (ctx_cons tabs (ctx_nil tabs (by kernel_rfl)) (s59 N)) (s58 N)) Go.Proofs.Tryd.func41 (by kernel_rfl) (by kernel_rfl) (by decide) (by decide) (e41 N)
noncomputable def S66 (N : Nat) : Go.Rx.Spec := ⟨.none, [.str, (.int .i64)], (.prod (.prod .str .str) .bool), 2, .ro, fun _ x => Px.spec_l12Decode N x.1 x.2.1⟩
theorem e66 (N : Nat) : evalFn (ctx tab [(40, S40 N), (41, S41 N), (59, S59 N), (65, S65 N)]) N .nil Go.Proofs.Tryd.f66 .none [.str, (.int .i64)] (.prod (.prod .str .str) .bool) 2 .ro = (S66 N).f := by kernel_rfl
theorem s66 (N : Nat) : Sat Go.Proofs.Tryd.prog 66 (S66 N) := sat_eq (ctx_cons tabs (ctx_cons tabs (ctx_cons tabs (ctx_cons tabs (ctx_nil tabs (by kernel_rfl)) (s65 N)) (s59 N)) (s41 N)) (s40 N)) Go.Proofs.Tryd.func66 (by kernel_rfl) (by kernel_rfl) (by decide) (by decide) (e66 N)
noncomputable def S49 (N : Nat) : Go.Rx.Spec := ⟨.none, [.str], (.prod (.slice 33 (.prod .str .str)) (.int .i64)), 2, (.pr (.own .ro) .ro), fun _ x => Px.spec_l12Open N x.1⟩
theorem e49 (N : Nat) : evalFn (ctx tab [(65, S65 N), (66, S66 N)]) N (.node none .nil (.node none .nil (.node none .nil (.node none (.node (some ⟨52, [(4, .vw 9 []), (5, .val (.int .i64))], [⟨9, false, false, (.own .ro), (.slice 33 (.prod .str .str))⟩]⟩) (.node (some ⟨52, [(0, .val .str), (4, .vw 9 []), (5, .val (.int .i64))], [⟨9, false, false, (.own .ro), (.slice 33 (.prod .str .str))⟩]⟩) .nil .nil) .nil) .nil)))) Go.Proofs.Tryd.f49 .none [.str] (.prod (.slice 33 (.prod .str .str)) (.int .i64)) 2 (.pr (.own .ro) .ro) = (S49 N).f := by kernel_rfl
theorem s49 (N : Nat) : Sat Go.Proofs.Tryd.prog 49 (S49 N) := sat_eq (ctx_cons tabs (ctx_cons tabs (ctx_nil tabs (by kernel_rfl)) (s66 N)) (s65 N)) Go.Proofs.Tryd.func49 (by kernel_rfl) (by kernel_rfl) (by decide) (by decide) (e49 N)
noncomputable def S33 (N : Nat) : Go.Rx.Spec := ⟨.none, [(.prod .str (.prod .str (.int .i64)))], .bool, 1, .ro, fun _ x => Px.spec_l12Valid N x.1⟩
theorem e33 (N : Nat) : evalFn (ctx tab [(49, S49 N)]) N .nil Go.Proofs.Tryd.f33 .none [(.prod .str (.prod .str (.int .i64)))] .bool 1 .ro = (S33 N).f := by kernel_rfl
theorem s33 (N : Nat) : Sat Go.Proofs.Tryd.prog 33 (S33 N) := sat_eq (ctx_cons tabs (ctx_nil tabs (by kernel_rfl)) (s49 N)) Go.Proofs.Tryd.func33 (by kernel_rfl) (by kernel_rfl) (by decide) (by decide) (e33 N)
noncomputable def S7 (N : Nat) : Go.Rx.Spec := ⟨.none, [(.prod .str (.prod .str (.int .i64))), (.int .i64), .bool], (.prod .str .bool), 2, .ro, fun _ x => Px.spec_CrashLog N x.1 x.2.1 x.2.2.1⟩
theorem e7 (N : Nat) : evalFn (ctx tab [(33, S33 N), (34, S34 N)]) N .nil Go.Proofs.Tryd.f7 .none [(.prod .str (.prod .str (.int .i64))), (.int .i64), .bool] (.prod .str .bool) 2 .ro = (S7 N).f := by kernel_rfl
theorem s7 (N : Nat) : Sat Go.Proofs.Tryd.prog 7 (S7 N) := sat_eq (ctx_cons tabs (ctx_cons tabs (ctx_nil tabs (by kernel_rfl)) (s34 N)) (s33 N)) Go.Proofs.Tryd.func7 (by kernel_rfl) (by kernel_rfl) (by decide) (by decide) (e7 N)
noncomputable def S61 (N : Nat) : Go.Rx.Spec := ⟨.none, [.str, .str], .bool, 1, .ro, fun _ x => Px.strings_ContainsAny N x.1 x.2.1⟩
theorem s61 (N : Nat) : Sat Go.Proofs.Tryd.prog 61 (S61 N) := sat_containsAny Go.Proofs.Tryd.func61 (by kernel_rfl) (by kernel_rfl) Go.Proofs.Tryd.strings_ContainsAny_laid
noncomputable def S46 (N : Nat) : Go.Rx.Spec := ⟨.none, [.str, (.int .i64), .str], .bool, 1, .ro, fun _ x => Px.impl_isPlain N x.1 x.2.1 x.2.2.1⟩
theorem e46 (N : Nat) : evalFn (ctx tab [(61, S61 N)]) N (.node none .nil (.node none (.node none .nil (.node (some ⟨34, [(0, .val .str), (1, .val (.int .i64)), (2, .val .str)], []⟩) (.node (some ⟨34, [(0, .val .str), (1, .val (.int .i64)), (2, .val .str), (9, .val (.int .i64)), (10, .val (.int .i64))], []⟩) .nil .nil) .nil)) .nil)) Go.Proofs.Tryd.f46 .none [.str, (.int .i64), .str] .bool 1 .ro = (S46 N).f := by kernel_rfl
theorem s46 (N : Nat) : Sat Go.Proofs.Tryd.prog 46 (S46 N) := sat_eq (ctx_cons tabs (ctx_nil tabs (by kernel_rfl)) (s61 N)) Go.Proofs.Tryd.func46 (by kernel_rfl) (by kernel_rfl) (by decide) (by decide) (e46 N)
noncomputable def S45 (N : Nat) : Go.Rx.Spec := ⟨.none, [.str], .bool, 1, .ro, fun _ x => Px.impl_isCommand N x.1⟩
theorem e45 (N : Nat) : evalFn (ctx tab [(46, S46 N)]) N .nil Go.Proofs.Tryd.f45 .none [.str] .bool 1 .ro = (S45 N).f := by kernel_rfl
theorem s45 (N : Nat) : Sat Go.Proofs.Tryd.prog 45 (S45 N) := sat_eq (ctx_cons tabs (ctx_nil tabs (by kernel_rfl)) (s46 N)) Go.Proofs.Tryd.func45 (by kernel_rfl) (by kernel_rfl) (by decide) (by decide) (e45 N)
noncomputable def S20 (N : Nat) : Go.Rx.Spec := ⟨.none, [(.prod .str .str)], .bool, 1, .ro, fun _ x => Px.impl_IsValidRecord N x.1⟩
theorem e20 (N : Nat) : evalFn (ctx tab [(45, S45 N), (46, S46 N)]) N .nil Go.Proofs.Tryd.f20 .none [(.prod .str .str)] .bool 1 .ro = (S20 N).f := by kernel_rfl
theorem s20 (N : Nat) : Sat Go.Proofs.Tryd.prog 20 (S20 N) := sat_eq (ctx_cons tabs (ctx_cons tabs (ctx_nil tabs (by kernel_rfl)) (s46 N)) (s45 N)) Go.Proofs.Tryd.func20 (by kernel_rfl) (by kernel_rfl) (by decide) (by decide) (e20 N)
noncomputable def S35 (N : Nat) : Go.Rx.Spec := ⟨.none, [(.int .i64), (.int .i64), (.int .i64)], .bool, 1, .ro, fun _ x => Px.impl_within N x.1 x.2.1 x.2.2.1⟩
theorem e35 (N : Nat) : evalFn (ctx tab []) N .nil Go.Proofs.Tryd.f35 .none [(.int .i64), (.int .i64), (.int .i64)] .bool 1 .ro = (S35 N).f := by kernel_rfl
theorem s35 (N : Nat) : Sat Go.Proofs.Tryd.prog 35 (S35 N) := sat_eq (ctx_nil tabs (by kernel_rfl)) Go.Proofs.Tryd.func35 (by kernel_rfl) (by kernel_rfl) (by decide) (by decide) (e35 N)
noncomputable def S39 (N : Nat) : Go.Rx.Spec := ⟨.none, [(.int .i64)], .str, 1, .ro, fun _ x => Px.strconv_Itoa N x.1⟩
theorem s39 (N : Nat) : Sat Go.Proofs.Tryd.prog 39 (S39 N) := sat_itoa gm Go.Proofs.Tryd.func39 (by kernel_rfl) (by kernel_rfl) Go.Proofs.Tryd.strconv_Itoa
noncomputable def S53 (N : Nat) : Go.Rx.Spec := ⟨.none, [.str, .str], .bool, 1, .ro, fun _ x => Px.strings_Contains N x.1 x.2.1⟩
theorem s53 (N : Nat) : Sat Go.Proofs.Tryd.prog 53 (S53 N) := sat_contains gm Go.Proofs.Tryd.func53 (by kernel_rfl) (by kernel_rfl) Go.Proofs.Tryd.strings_Contains
noncomputable def S54 (N : Nat) : Go.Rx.Spec := ⟨.none, [.str], (.int .i64), 1, .ro, fun _ x => Px.impl_checksum N x.1⟩
theorem e54 (N : Nat) : evalFn (ctx tab []) N (.node none .nil (.node none .nil (.node none (.node none .nil (.node (some ⟨21, [(3, .val (.int .i64))], []⟩) (.node (some ⟨21, [(0, .val .str), (3, .val (.int .i64)), (6, .val (.int .i64)), (7, .val (.int .i64))], []⟩) .nil .nil) .nil)) .nil))) Go.Proofs.Tryd.f54 .none [.str] (.int .i64) 1 .ro = (S54 N).f := by kernel_rfl
theorem s54 (N : Nat) : Sat Go.Proofs.Tryd.prog 54 (S54 N) := sat_eq (ctx_nil tabs (by kernel_rfl)) Go.Proofs.Tryd.func54 (by kernel_rfl) (by kernel_rfl) (by decide) (by decide) (e54 N)
noncomputable def S38 (N : Nat) : Go.Rx.Spec := ⟨.none, [.str], (.prod .str .bool), 2, .ro, fun _ x => Px.impl_AppendChecksum N x.1⟩
theorem e38 (N : Nat) : evalFn (ctx tab [(39, S39 N), (53, S53 N), (54, S54 N)]) N .nil Go.Proofs.Tryd.f38 .none [.str] (.prod .str .bool) 2 .ro = (S38 N).f := by kernel_rfl
theorem s38 (N : Nat) : Sat Go.Proofs.Tryd.prog 38 (S38 N) := sat_eq (ctx_cons tabs (ctx_cons tabs (ctx_cons tabs (ctx_nil tabs (by kernel_rfl)) (s54 N)) (s53 N)) (s39 N)) Go.Proofs.Tryd.func38 (by kernel_rfl) (by kernel_rfl) (by decide) (by decide) (e38 N)
noncomputable def S14 (N : Nat) : Go.Rx.Spec := ⟨.none, [(.int .i64), (.prod .str .str)], (.prod .str .bool), 2, .ro, fun _ x => Px.impl_EncodeRecord N x.1 x.2.1⟩
theorem e14 (N : Nat) : evalFn (ctx tab [(20, S20 N), (35, S35 N), (38, S38 N), (39, S39 N)]) N .nil Go.Proofs.Tryd.f14 .none [(.int .i64), (.prod .str .str)] (.prod .str .bool) 2 .ro = (S14 N).f := by kernel_rfl
theorem s14 (N : Nat) : Sat Go.Proofs.Tryd.prog 14 (S14 N) := sat_eq (ctx_cons tabs (ctx_cons tabs (ctx_cons tabs (ctx_cons tabs (ctx_nil tabs (by kernel_rfl)) (s39 N)) (s38 N)) (s35 N)) (s20 N)) Go.Proofs.Tryd.func14 (by kernel_rfl) (by kernel_rfl) (by decide) (by decide) (e14 N)
noncomputable def S62 (N : Nat) : Go.Rx.Spec := ⟨.none, [.str, .str], (.prod .str (.prod .str .bool)), 3, .ro, fun _ x => Px.strings_Cut N x.1 x.2.1⟩
theorem s62 (N : Nat) : Sat Go.Proofs.Tryd.prog 62 (S62 N) := sat_cut gm Go.Proofs.Tryd.func62 (by kernel_rfl) (by kernel_rfl) Go.Proofs.Tryd.strings_Cut
noncomputable def S63 (N : Nat) : Go.Rx.Spec := ⟨.none, [.str], (.prod .str .bool), 2, .ro, fun _ x => Px.impl_VerifyChecksum N x.1⟩
theorem e63 (N : Nat) : evalFn (ctx tab [(38, S38 N), (62, S62 N)]) N .nil Go.Proofs.Tryd.f63 .none [.str] (.prod .str .bool) 2 .ro = (S63 N).f := by kernel_rfl
theorem s63 (N : Nat) : Sat Go.Proofs.Tryd.prog 63 (S63 N) := sat_eq (ctx_cons tabs (ctx_cons tabs (ctx_nil tabs (by kernel_rfl)) (s62 N)) (s38 N)) Go.Proofs.Tryd.func63 (by kernel_rfl) (by kernel_rfl) (by decide) (by decide) (e63 N)
noncomputable def S47 (N : Nat) : Go.Rx.Spec := ⟨.none, [.str], (.prod (.slice 33 (.prod .str .str)) (.slice 3 (.int .i64))), 2, (.pr (.own .ro) (.own .ro)), fun _ x => Px.impl_readRecords N x.1⟩
theorem e47 (N : Nat) : evalFn (ctx tab [(14, S14 N), (62, S62 N), (63, S63 N)]) N (.node none .nil (.node none .nil (.node none (.node (some ⟨83, [(4, .vw 18 []), (5, .vw 19 [])], [⟨18, false, false, (.own .ro), (.slice 33 (.prod .str .str))⟩, ⟨19, false, false, (.own .ro), (.slice 3 (.int .i64))⟩]⟩) (.node (some ⟨83, [(0, .val .str), (4, .vw 18 []), (5, .vw 19 []), (6, .val (.int .i64))], [⟨18, false, false, (.own .ro), (.slice 33 (.prod .str .str))⟩, ⟨19, false, false, (.own .ro), (.slice 3 (.int .i64))⟩]⟩) .nil .nil) .nil) .nil))) Go.Proofs.Tryd.f47 .none [.str] (.prod (.slice 33 (.prod .str .str)) (.slice 3 (.int .i64))) 2 (.pr (.own .ro) (.own .ro)) = (S47 N).f := by kernel_rfl
theorem s47 (N : Nat) : Sat Go.Proofs.Tryd.prog 47 (S47 N) := sat_eq (ctx_cons tabs (ctx_cons tabs (ctx_cons tabs (ctx_nil tabs (by kernel_rfl)) (s63 N)) (s62 N)) (s14 N)) Go.Proofs.Tryd.func47 (by kernel_rfl) (by kernel_rfl) (by decide) (by decide) (e47 N)
noncomputable def S64 (N : Nat) : Go.Rx.Spec := ⟨.none, [(.slice 3 (.int .i64)), (.int .i64)], (.int .i64), 1, .ro, fun _ x => Px.slices_Index_int_int N x.1 x.2.1⟩
theorem e64 (N : Nat) : evalFn (ctx tab []) N (.node none .nil (.node none (.node none .nil (.node (some ⟨19, [], []⟩) (.node (some ⟨19, [(0, .val (.slice 3 (.int .i64))), (1, .val (.int .i64)), (7, .val (.int .i64)), (8, .val (.int .i64))], []⟩) .nil .nil) .nil)) .nil)) Go.Proofs.Tryd.f64 .none [(.slice 3 (.int .i64)), (.int .i64)] (.int .i64) 1 .ro = (S64 N).f := by kernel_rfl
theorem s64 (N : Nat) : Sat Go.Proofs.Tryd.prog 64 (S64 N) := sat_eq (ctx_nil tabs (by kernel_rfl)) Go.Proofs.Tryd.func64 (by kernel_rfl) (by kernel_rfl) (by decide) (by decide) (e64 N)
noncomputable def S48 (N : Nat) : Go.Rx.Spec := ⟨.none, [(.slice 3 (.int .i64)), (.int .i64)], .bool, 1, .ro, fun _ x => Px.slices_Contains_int_int N x.1 x.2.1⟩
theorem e48 (N : Nat) : evalFn (ctx tab [(64, S64 N)]) N .nil Go.Proofs.Tryd.f48 .none [(.slice 3 (.int .i64)), (.int .i64)] .bool 1 .ro = (S48 N).f := by kernel_rfl
theorem s48 (N : Nat) : Sat Go.Proofs.Tryd.prog 48 (S48 N) := sat_eq (ctx_cons tabs (ctx_nil tabs (by kernel_rfl)) (s64 N)) Go.Proofs.Tryd.func48 (by kernel_rfl) (by kernel_rfl) (by decide) (by decide) (e48 N)
noncomputable def S22 (N : Nat) : Go.Rx.Spec := ⟨.none, [(.prod .str (.prod .str (.int .i64)))], .bool, 1, .ro, fun _ x => Px.impl_IsValidLog N x.1⟩
theorem e22 (N : Nat) : evalFn (ctx tab [(47, S47 N), (48, S48 N)]) N .nil Go.Proofs.Tryd.f22 .none [(.prod .str (.prod .str (.int .i64)))] .bool 1 .ro = (S22 N).f := by kernel_rfl
theorem s22 (N : Nat) : Sat Go.Proofs.Tryd.prog 22 (S22 N) := sat_eq (ctx_cons tabs (ctx_cons tabs (ctx_nil tabs (by kernel_rfl)) (s48 N)) (s47 N)) Go.Proofs.Tryd.func22 (by kernel_rfl) (by kernel_rfl) (by decide) (by decide) (e22 N)
noncomputable def S9 (N : Nat) : Go.Rx.Spec := ⟨.none, [(.prod .str (.prod .str (.int .i64))), (.int .i64), .bool], (.prod .str .bool), 2, .ro, fun _ x => Px.impl_CrashLog N x.1 x.2.1 x.2.2.1⟩
theorem e9 (N : Nat) : evalFn (ctx tab [(22, S22 N), (35, S35 N)]) N .nil Go.Proofs.Tryd.f9 .none [(.prod .str (.prod .str (.int .i64))), (.int .i64), .bool] (.prod .str .bool) 2 .ro = (S9 N).f := by kernel_rfl
theorem s9 (N : Nat) : Sat Go.Proofs.Tryd.prog 9 (S9 N) := sat_eq (ctx_cons tabs (ctx_cons tabs (ctx_nil tabs (by kernel_rfl)) (s35 N)) (s22 N)) Go.Proofs.Tryd.func9 (by kernel_rfl) (by kernel_rfl) (by decide) (by decide) (e9 N)
noncomputable def S10 (N : Nat) : Go.Rx.Spec := ⟨.none, [(.slice 5 (.int .u8))], .bool, 1, .ro, fun _ x => Px.laws_vBig N x.1⟩
theorem e10 (N : Nat) : evalFn (ctx tab []) N .nil Go.Proofs.Tryd.f10 .none [(.slice 5 (.int .u8))] .bool 1 .ro = (S10 N).f := by kernel_rfl
theorem s10 (N : Nat) : Sat Go.Proofs.Tryd.prog 10 (S10 N) := sat_eq (ctx_nil tabs (by kernel_rfl)) Go.Proofs.Tryd.func10 (by kernel_rfl) (by kernel_rfl) (by decide) (by decide) (e10 N)
noncomputable def S13 (N : Nat) : Go.Rx.Spec := ⟨.none, [(.slice 5 (.int .u8)), (.int .i64)], (.slice 5 (.int .u8)), 1, (.own .ro), fun _ x => Px.laws_vCut N x.1 x.2.1⟩
theorem e13 (N : Nat) : evalFn (ctx tab []) N .nil Go.Proofs.Tryd.f13 .none [(.slice 5 (.int .u8)), (.int .i64)] (.slice 5 (.int .u8)) 1 (.own .ro) = (S13 N).f := by kernel_rfl
theorem s13 (N : Nat) : Sat Go.Proofs.Tryd.prog 13 (S13 N) := sat_eq (ctx_nil tabs (by kernel_rfl)) Go.Proofs.Tryd.func13 (by kernel_rfl) (by kernel_rfl) (by decide) (by decide) (e13 N)
noncomputable def S26 (N : Nat) : Go.Rx.Spec := ⟨.none, [(.prod .str (.prod .str (.int .i64)))], (.prod (.slice 33 (.prod .str .str)) .bool), 2, (.pr (.own .ro) .ro), fun _ x => Px.impl_LogRecords N x.1⟩
theorem e26 (N : Nat) : evalFn (ctx tab [(22, S22 N), (47, S47 N)]) N .nil Go.Proofs.Tryd.f26 .none [(.prod .str (.prod .str (.int .i64)))] (.prod (.slice 33 (.prod .str .str)) .bool) 2 (.pr (.own .ro) .ro) = (S26 N).f := by kernel_rfl
theorem s26 (N : Nat) : Sat Go.Proofs.Tryd.prog 26 (S26 N) := sat_eq (ctx_cons tabs (ctx_cons tabs (ctx_nil tabs (by kernel_rfl)) (s47 N)) (s22 N)) Go.Proofs.Tryd.func26 (by kernel_rfl) (by kernel_rfl) (by decide) (by decide) (e26 N)
noncomputable def S28 (N : Nat) : Go.Rx.Spec := ⟨.none, [(.slice 33 (.prod .str .str)), (.slice 33 (.prod .str .str))], .bool, 1, .ro, fun _ x => Px.laws_vRecords N x.1 x.2.1⟩
theorem e28 (N : Nat) : evalFn (ctx tab []) N (.node none .nil (.node none .nil (.node none (.node none .nil (.node (some ⟨26, [], []⟩) (.node (some ⟨26, [(0, .val (.slice 33 (.prod .str .str))), (1, .val (.slice 33 (.prod .str .str))), (5, .val (.int .i64))], []⟩) .nil .nil) .nil)) .nil))) Go.Proofs.Tryd.f28 .none [(.slice 33 (.prod .str .str)), (.slice 33 (.prod .str .str))] .bool 1 .ro = (S28 N).f := by kernel_rfl
theorem s28 (N : Nat) : Sat Go.Proofs.Tryd.prog 28 (S28 N) := sat_eq (ctx_nil tabs (by kernel_rfl)) Go.Proofs.Tryd.func28 (by kernel_rfl) (by kernel_rfl) (by decide) (by decide) (e28 N)
noncomputable def S60 (N : Nat) : Go.Rx.Spec := ⟨(.ptr (.prod (.slice 5 (.int .u8)) (.prod (.int .i64) (.int .u64))) .ro .ro), [], (.int .i64), 1, .ro, fun g x => Px.pspec_l1Cur_next N g⟩
theorem e60 (N : Nat) : evalFn (ctx tab []) N (.node none .nil (.node none .nil (.node none (.node none .nil (.node (some ⟨62, [(0, .ptr 0 []), (3, .val (.int .i64))], [⟨0, true, false, .ro, (.prod (.slice 5 (.int .u8)) (.prod (.int .i64) (.int .u64)))⟩]⟩) .nil .nil)) .nil))) Go.Proofs.Tryd.f60 (.ptr (.prod (.slice 5 (.int .u8)) (.prod (.int .i64) (.int .u64))) .ro .ro) [] (.int .i64) 1 .ro = (S60 N).f := by kernel_rfl
theorem s60 (N : Nat) : Sat Go.Proofs.Tryd.prog 60 (S60 N) := sat_eq (ctx_nil tabs (by kernel_rfl)) Go.Proofs.Tryd.func60 (by kernel_rfl) (by kernel_rfl) (by decide) (by decide) (e60 N)
noncomputable def S44 (N : Nat) : Go.Rx.Spec := ⟨(.ptr (.prod (.slice 5 (.int .u8)) (.prod (.int .i64) (.int .u64))) .ro .ro), [(.int .i64)], (.int .i64), 1, .ro, fun g x => Px.pspec_l1Cur_pick N g x.1⟩
theorem e44 (N : Nat) : evalFn (ctx tab [(60, S60 N)]) N .nil Go.Proofs.Tryd.f44 (.ptr (.prod (.slice 5 (.int .u8)) (.prod (.int .i64) (.int .u64))) .ro .ro) [(.int .i64)] (.int .i64) 1 .ro = (S44 N).f := by kernel_rfl
theorem s44 (N : Nat) : Sat Go.Proofs.Tryd.prog 44 (S44 N) := sat_eq (ctx_cons tabs (ctx_nil tabs (by kernel_rfl)) (s60 N)) Go.Proofs.Tryd.func44 (by kernel_rfl) (by kernel_rfl) (by decide) (by decide) (e44 N)
noncomputable def S19 (N : Nat) : Go.Rx.Spec := ⟨.none, [(.prod .str (.prod .str (.int .i64))), (.prod .str .str)], (.prod (.prod .str (.prod .str (.int .i64))) (.int .i64)), 2, .ro, fun _ x => Px.spec_AppendRecord N x.1 x.2.1⟩
theorem e19 (N : Nat) : evalFn (ctx tab [(33, S33 N), (40, S40 N), (41, S41 N)]) N .nil Go.Proofs.Tryd.f19 .none [(.prod .str (.prod .str (.int .i64))), (.prod .str .str)] (.prod (.prod .str (.prod .str (.int .i64))) (.int .i64)) 2 .ro = (S19 N).f := by kernel_rfl
theorem s19 (N : Nat) : Sat Go.Proofs.Tryd.prog 19 (S19 N) := sat_eq (ctx_cons tabs (ctx_cons tabs (ctx_cons tabs (ctx_nil tabs (by kernel_rfl)) (s41 N)) (s40 N)) (s33 N)) Go.Proofs.Tryd.func19 (by kernel_rfl) (by kernel_rfl) (by decide) (by decide) (e19 N)
noncomputable def S25 (N : Nat) : Go.Rx.Spec := ⟨.none, [(.prod .str (.prod .str (.int .i64)))], (.prod (.prod .str (.prod .str (.int .i64))) .bool), 2, .ro, fun _ x => Px.spec_SyncLog N x.1⟩
theorem e25 (N : Nat) : evalFn (ctx tab [(33, S33 N)]) N .nil Go.Proofs.Tryd.f25 .none [(.prod .str (.prod .str (.int .i64)))] (.prod (.prod .str (.prod .str (.int .i64))) .bool) 2 .ro = (S25 N).f := by kernel_rfl
theorem s25 (N : Nat) : Sat Go.Proofs.Tryd.prog 25 (S25 N) := sat_eq (ctx_cons tabs (ctx_nil tabs (by kernel_rfl)) (s33 N)) Go.Proofs.Tryd.func25 (by kernel_rfl) (by kernel_rfl) (by decide) (by decide) (e25 N)
noncomputable def S52 (N : Nat) : Go.Rx.Spec := ⟨(.ptr (.prod (.slice 5 (.int .u8)) (.prod (.int .i64) (.int .u64))) .ro .ro), [(.slice 9 .str)], .str, 1, .ro, fun g x => Px.pspec_l1Cur_of N g x.1⟩
theorem e52 (N : Nat) : evalFn (ctx tab [(44, S44 N)]) N .nil Go.Proofs.Tryd.f52 (.ptr (.prod (.slice 5 (.int .u8)) (.prod (.int .i64) (.int .u64))) .ro .ro) [(.slice 9 .str)] .str 1 .ro = (S52 N).f := by kernel_rfl
theorem s52 (N : Nat) : Sat Go.Proofs.Tryd.prog 52 (S52 N) := sat_eq (ctx_cons tabs (ctx_nil tabs (by kernel_rfl)) (s44 N)) Go.Proofs.Tryd.func52 (by kernel_rfl) (by kernel_rfl) (by decide) (by decide) (e52 N)
noncomputable def S36 (N : Nat) : Go.Rx.Spec := ⟨(.ptr (.prod (.slice 5 (.int .u8)) (.prod (.int .i64) (.int .u64))) .ro .ro), [], (.prod .str .str), 1, .ro, fun g x => Px.pspec_l1Cur_logRecord N g⟩
theorem e36 (N : Nat) : evalFn (ctxF tab [(44, S44 N), (52, S52 N)] [5, 8, 18, 24]) N .nil Go.Proofs.Tryd.f36 (.ptr (.prod (.slice 5 (.int .u8)) (.prod (.int .i64) (.int .u64))) .ro .ro) [] (.prod .str .str) 1 .ro = (S36 N).f := by kernel_rfl
theorem s36 (N : Nat) : Sat Go.Proofs.Tryd.prog 36 (S36 N) := sat_eq (ctxF_ok (ctx_cons tabs (ctx_cons tabs (ctx_nil tabs (by kernel_rfl)) (s52 N)) (s44 N)) _) Go.Proofs.Tryd.func36 (by kernel_rfl) (by kernel_rfl) (by decide) (by decide) (e36 N)
noncomputable def S43 (N : Nat) : Go.Rx.Spec := ⟨(.ptr (.prod (.slice 5 (.int .u8)) (.prod (.int .i64) (.int .u64))) .ro .ro), [(.int .i64)], .bool, 1, .ro, fun g x => Px.pspec_l1Cur_one N g x.1⟩
theorem e43 (N : Nat) : evalFn (ctx tab [(44, S44 N)]) N .nil Go.Proofs.Tryd.f43 (.ptr (.prod (.slice 5 (.int .u8)) (.prod (.int .i64) (.int .u64))) .ro .ro) [(.int .i64)] .bool 1 .ro = (S43 N).f := by kernel_rfl
theorem s43 (N : Nat) : Sat Go.Proofs.Tryd.prog 43 (S43 N) := sat_eq (ctx_cons tabs (ctx_nil tabs (by kernel_rfl)) (s44 N)) Go.Proofs.Tryd.func43 (by kernel_rfl) (by kernel_rfl) (by decide) (by decide) (e43 N)
noncomputable def S50 (N : Nat) : Go.Rx.Spec := ⟨(.ptr (.prod (.slice 5 (.int .u8)) (.prod (.int .i64) (.int .u64))) .ro .ro), [], (.prod .str (.prod .str (.int .i64))), 1, .ro, fun g x => Px.pspec_l1Cur_log12 N g⟩
theorem e50 (N : Nat) : evalFn (ctx tab [(19, S19 N), (25, S25 N), (36, S36 N), (43, S43 N), (44, S44 N)]) N (.node none .nil (.node none .nil (.node none (.node none .nil (.node (some ⟨27, [(0, .ptr 0 []), (2, .ptr 2 []), (3, .ptr 3 [])], [⟨0, true, false, .ro, (.prod (.slice 5 (.int .u8)) (.prod (.int .i64) (.int .u64)))⟩, ⟨2, true, false, .ro, (.prod .str (.prod .str (.int .i64)))⟩, ⟨3, true, false, .ro, (.prod .str (.prod .str (.int .i64)))⟩]⟩) (.node (some ⟨27, [(0, .ptr 0 []), (2, .ptr 2 []), (3, .ptr 3 []), (4, .val (.int .i64))], [⟨0, true, false, .ro, (.prod (.slice 5 (.int .u8)) (.prod (.int .i64) (.int .u64)))⟩, ⟨2, true, false, .ro, (.prod .str (.prod .str (.int .i64)))⟩, ⟨3, true, false, .ro, (.prod .str (.prod .str (.int .i64)))⟩]⟩) .nil .nil) .nil)) .nil))) Go.Proofs.Tryd.f50 (.ptr (.prod (.slice 5 (.int .u8)) (.prod (.int .i64) (.int .u64))) .ro .ro) [] (.prod .str (.prod .str (.int .i64))) 1 .ro = (S50 N).f := by kernel_rfl
theorem s50 (N : Nat) : Sat Go.Proofs.Tryd.prog 50 (S50 N) := sat_eq (ctx_cons tabs (ctx_cons tabs (ctx_cons tabs (ctx_cons tabs (ctx_cons tabs (ctx_nil tabs (by kernel_rfl)) (s44 N)) (s43 N)) (s36 N)) (s25 N)) (s19 N)) Go.Proofs.Tryd.func50 (by kernel_rfl) (by kernel_rfl) (by decide) (by decide) (e50 N)
noncomputable def S51 (N : Nat) : Go.Rx.Spec := ⟨(.ptr (.prod (.slice 5 (.int .u8)) (.prod (.int .i64) (.int .u64))) .ro .ro), [.str, .str], .str, 1, .ro, fun g x => Px.pspec_l1Cur_spoilt N g x.1 x.2.1⟩
theorem e51 (N : Nat) : evalFn (ctx tab [(44, S44 N)]) N .nil Go.Proofs.Tryd.f51 (.ptr (.prod (.slice 5 (.int .u8)) (.prod (.int .i64) (.int .u64))) .ro .ro) [.str, .str] .str 1 .ro = (S51 N).f := by kernel_rfl
theorem s51 (N : Nat) : Sat Go.Proofs.Tryd.prog 51 (S51 N) := sat_eq (ctx_cons tabs (ctx_nil tabs (by kernel_rfl)) (s44 N)) Go.Proofs.Tryd.func51 (by kernel_rfl) (by kernel_rfl) (by decide) (by decide) (e51 N)
noncomputable def S42 (N : Nat) : Go.Rx.Spec := ⟨(.ptr (.prod (.slice 5 (.int .u8)) (.prod (.int .i64) (.int .u64))) .ro .ro), [], (.prod .str (.prod .str (.int .i64))), 1, .ro, fun g x => Px.pspec_l1Cur_anyLog N g⟩
theorem e42 (N : Nat) : evalFn (ctx tab [(44, S44 N), (50, S50 N), (51, S51 N)]) N .nil Go.Proofs.Tryd.f42 (.ptr (.prod (.slice 5 (.int .u8)) (.prod (.int .i64) (.int .u64))) .ro .ro) [] (.prod .str (.prod .str (.int .i64))) 1 .ro = (S42 N).f := by kernel_rfl
theorem s42 (N : Nat) : Sat Go.Proofs.Tryd.prog 42 (S42 N) := sat_eq (ctx_cons tabs (ctx_cons tabs (ctx_cons tabs (ctx_nil tabs (by kernel_rfl)) (s51 N)) (s50 N)) (s44 N)) Go.Proofs.Tryd.func42 (by kernel_rfl) (by kernel_rfl) (by decide) (by decide) (e42 N)
noncomputable def S29 (N : Nat) : Go.Rx.Spec := ⟨.none, [(.slice 5 (.int .u8))], (.prod (.prod .str (.prod .str (.int .i64))) (.prod (.int .i64) .bool)), 3, .ro, fun _ x => Px.spec_DrawCrashLog N x.1⟩
theorem e29 (N : Nat) : evalFn (ctx tab [(42, S42 N), (43, S43 N), (44, S44 N)]) N .nil Go.Proofs.Tryd.f29 .none [(.slice 5 (.int .u8))] (.prod (.prod .str (.prod .str (.int .i64))) (.prod (.int .i64) .bool)) 3 .ro = (S29 N).f := by kernel_rfl
theorem s29 (N : Nat) : Sat Go.Proofs.Tryd.prog 29 (S29 N) := sat_eq (ctx_cons tabs (ctx_cons tabs (ctx_cons tabs (ctx_nil tabs (by kernel_rfl)) (s44 N)) (s43 N)) (s42 N)) Go.Proofs.Tryd.func29 (by kernel_rfl) (by kernel_rfl) (by decide) (by decide) (e29 N)
noncomputable def S30 (N : Nat) : Go.Rx.Spec := ⟨.none, [(.slice 5 (.int .u8))], .str, 1, .ro, fun _ x => Px.spec_DrawRecoverLog N x.1⟩
theorem e30 (N : Nat) : evalFn (ctx tab [(36, S36 N), (41, S41 N), (43, S43 N), (44, S44 N), (50, S50 N), (51, S51 N)]) N (.node none .nil (.node none .nil (.node none .nil (.node none .nil (.node none (.node none .nil (.node (some ⟨49, [(3, .ptr 8 []), (5, .val .str)], [⟨8, true, false, .ro, (.prod (.slice 5 (.int .u8)) (.prod (.int .i64) (.int .u64)))⟩]⟩) .nil .nil)) .nil))))) Go.Proofs.Tryd.f30 .none [(.slice 5 (.int .u8))] .str 1 .ro = (S30 N).f := by kernel_rfl
theorem s30 (N : Nat) : Sat Go.Proofs.Tryd.prog 30 (S30 N) := sat_eq (ctx_cons tabs (ctx_cons tabs (ctx_cons tabs (ctx_cons tabs (ctx_cons tabs (ctx_cons tabs (ctx_nil tabs (by kernel_rfl)) (s51 N)) (s50 N)) (s44 N)) (s43 N)) (s41 N)) (s36 N)) Go.Proofs.Tryd.func30 (by kernel_rfl) (by kernel_rfl) (by decide) (by decide) (e30 N)
noncomputable def S31 (N : Nat) : Go.Rx.Spec := ⟨.none, [.str], (.prod (.prod .str (.prod .str (.int .i64))) (.prod (.int .i64) .bool)), 3, .ro, fun _ x => Px.impl_RecoverLog N x.1⟩
theorem e31 (N : Nat) : evalFn (ctx tab [(47, S47 N)]) N .nil Go.Proofs.Tryd.f31 .none [.str] (.prod (.prod .str (.prod .str (.int .i64))) (.prod (.int .i64) .bool)) 3 .ro = (S31 N).f := by kernel_rfl
theorem s31 (N : Nat) : Sat Go.Proofs.Tryd.prog 31 (S31 N) := sat_eq (ctx_cons tabs (ctx_nil tabs (by kernel_rfl)) (s47 N)) Go.Proofs.Tryd.func31 (by kernel_rfl) (by kernel_rfl) (by decide) (by decide) (e31 N)
noncomputable def S32 (N : Nat) : Go.Rx.Spec := ⟨.none, [.str], (.prod (.prod .str (.prod .str (.int .i64))) (.prod (.int .i64) .bool)), 3, .ro, fun _ x => Px.spec_RecoverLog N x.1⟩
theorem e32 (N : Nat) : evalFn (ctx tab [(49, S49 N)]) N .nil Go.Proofs.Tryd.f32 .none [.str] (.prod (.prod .str (.prod .str (.int .i64))) (.prod (.int .i64) .bool)) 3 .ro = (S32 N).f := by kernel_rfl
theorem s32 (N : Nat) : Sat Go.Proofs.Tryd.prog 32 (S32 N) := sat_eq (ctx_cons tabs (ctx_nil tabs (by kernel_rfl)) (s49 N)) Go.Proofs.Tryd.func32 (by kernel_rfl) (by kernel_rfl) (by decide) (by decide) (e32 N)
noncomputable def S5 (N : Nat) : Go.Rx.Spec := ⟨.none, [(.slice 5 (.int .u8))], .bool, 1, .ro, fun _ x => Px.laws_FnCrashes N x.1⟩
theorem e5 (N : Nat) : evalFn (ctx tab [(7, S7 N), (9, S9 N), (10, S10 N), (13, S13 N), (22, S22 N), (26, S26 N), (28, S28 N), (29, S29 N), (30, S30 N), (31, S31 N), (32, S32 N)]) N .nil Go.Proofs.Tryd.f5 .none [(.slice 5 (.int .u8))] .bool 1 .ro = (S5 N).f := by kernel_rfl
theorem s5 (N : Nat) : Sat Go.Proofs.Tryd.prog 5 (S5 N) := sat_eq (ctx_cons tabs (ctx_cons tabs (ctx_cons tabs (ctx_cons tabs (ctx_cons tabs (ctx_cons tabs (ctx_cons tabs (ctx_cons tabs (ctx_cons tabs (ctx_cons tabs (ctx_cons tabs (ctx_nil tabs (by kernel_rfl)) (s32 N)) (s31 N)) (s30 N)) (s29 N)) (s28 N)) (s26 N)) (s22 N)) (s13 N)) (s10 N)) (s9 N)) (s7 N)) Go.Proofs.Tryd.func5 (by kernel_rfl) (by kernel_rfl) (by decide) (by decide) (e5 N)
end Go.Proofs.YtpoaciklldghkaaDoor.RsFnCrashes
