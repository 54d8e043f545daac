/- This text proves that the Go functions behind FnExactSyncLog compute the plain functions; no condition. -/
import Derived.Test.YtogbimnakonbpaaDoorProg
import Derived.Test.YtogbimnakonbpaaDoorPxFnExactSyncLog
import Derived.Test.YtogbimnakonbpaaDoorLayFnExactSyncLog
set_option linter.unusedVariables false
set_option linter.unusedSimpArgs false
namespace Go.Proofs.YtogbimnakonbpaaDoor.RsFnExactSyncLog
open Go.Rx
def tab : List (Nat × TI) := [
  (2, ⟨(.int .i64), 0, 8⟩),
  (3, ⟨(.int .i64), 0, 8⟩),
  (4, ⟨.bool, 0, 1⟩),
  (5, ⟨(.int .u8), 0, 1⟩),
  (6, ⟨(.int .u8), 0, 1⟩),
  (7, ⟨(.prod (.int .i64) (.prod (.int .i64) (.prod .bool (.int .u8)))), 4, 24⟩),
  (8, ⟨(.prod (.int .i64) (.prod (.int .i64) (.prod .bool (.int .u8)))), 4, 24⟩),
  (9, ⟨.str, 0, 16⟩),
  (10, ⟨.str, 0, 16⟩),
  (11, ⟨.str, 0, 16⟩),
  (12, ⟨(.int .u64), 0, 8⟩),
  (13, ⟨(.prod .str (.int .u64)), 2, 24⟩),
  (14, ⟨(.prod .str (.int .u64)), 2, 24⟩),
  (20, ⟨.err, 0, 16⟩),
  (21, ⟨(.int .i32), 0, 4⟩),
  (22, ⟨(.prod .str (.prod .str (.int .i64))), 3, 40⟩),
  (23, ⟨(.prod .str (.prod .str (.int .i64))), 3, 40⟩),
  (27, ⟨(.prod .str (.prod .str (.int .i64))), 3, 40⟩),
  (36, ⟨(.slice 5 (.int .u8)), 0, 24⟩),
  (37, ⟨(.slice 47 (.prod .str .str)), 0, 24⟩),
  (40, ⟨(.slice 3 (.int .i64)), 0, 24⟩),
  (44, ⟨(.slice 9 .str), 0, 24⟩),
  (46, ⟨(.prod .str .str), 2, 32⟩),
  (47, ⟨(.prod .str .str), 2, 32⟩),
  (68, ⟨(.int .u64), 0, 8⟩),
  (70, ⟨(.int .u32), 0, 4⟩),
  (73, ⟨(.arr 24 (.int .u8)), 0, 24⟩),
  (74, ⟨(.int .u64), 0, 8⟩),
  (81, ⟨(.arr 256 .bool), 0, 256⟩),
  (82, ⟨(.arr 256 .bool), 0, 256⟩),
  (87, ⟨(.arr 20 (.int .u64)), 0, 160⟩),
  (88, ⟨(.arr 65 (.int .u8)), 0, 65⟩),
  (93, ⟨(.arr 32 (.int .u8)), 0, 32⟩),
  (94, ⟨(.arr 64 (.int .u8)), 0, 64⟩),
  (102, ⟨(.int .u8), 0, 1⟩),
  (103, ⟨(.int .u8), 0, 1⟩),
  (106, ⟨(.int .i32), 0, 4⟩),
  (107, ⟨(.int .i32), 0, 4⟩)]
abbrev gm : Nat := 0
instance laidI : Laid Go.Proofs.Tryd.prog := doorLaid Go.Proofs.Tryd.prog gm
theorem tabs : ∀ l, TabOk Go.Proofs.Tryd.prog (ctx tab l) := tab_all (by kernel_rfl)
noncomputable def S5 (N : Nat) : Go.Rx.Spec := ⟨.none, [(.prod .str (.prod .str (.int .i64))), (.int .i64)], (.int .i64), 1, .ro, fun _ x => Px.laws_szLog N x.1 x.2.1⟩
theorem e5 (N : Nat) : evalFn (ctx tab []) N .nil Go.Proofs.Tryd.f5 .none [(.prod .str (.prod .str (.int .i64))), (.int .i64)] (.int .i64) 1 .ro = (S5 N).f := by kernel_rfl
theorem s5 (N : Nat) : Sat Go.Proofs.Tryd.prog 5 (S5 N) := sat_eq (ctx_nil tabs (by kernel_rfl)) Go.Proofs.Tryd.func5 (by kernel_rfl) (by kernel_rfl) (by decide) (by decide) (e5 N)
noncomputable def S7 (N : Nat) : Go.Rx.Spec := ⟨.none, [(.prod .str (.prod .str (.int .i64)))], (.prod .str (.prod .str (.int .i64))), 1, .ro, fun _ x => Px.laws_toLog N x.1⟩
theorem e7 (N : Nat) : evalFn (ctx tab []) N .nil Go.Proofs.Tryd.f7 .none [(.prod .str (.prod .str (.int .i64)))] (.prod .str (.prod .str (.int .i64))) 1 .ro = (S7 N).f := by kernel_rfl
theorem s7 (N : Nat) : Sat Go.Proofs.Tryd.prog 7 (S7 N) := sat_eq (ctx_nil tabs (by kernel_rfl)) Go.Proofs.Tryd.func7 (by kernel_rfl) (by kernel_rfl) (by decide) (by decide) (e7 N)
noncomputable def S19 (N : Nat) : Go.Rx.Spec := ⟨.none, [.str, (.int .u8)], (.slice 9 .str), 1, (.own .ro), fun _ x => Px.spec_l1Split N x.1 x.2.1⟩
theorem e19 (N : Nat) : evalFn (ctx tab []) N (.node none .nil (.node none .nil (.node none .nil (.node none (.node none .nil (.node (some ⟨35, [(0, .val .str), (5, .vw 8 []), (6, .val (.int .i64))], [⟨8, false, false, (.own .ro), (.slice 9 .str)⟩]⟩) (.node (some ⟨35, [(0, .val .str), (1, .val (.int .u8)), (5, .vw 8 []), (6, .val (.int .i64)), (7, .val (.int .i64))], [⟨8, false, false, (.own .ro), (.slice 9 .str)⟩]⟩) .nil .nil) .nil)) .nil)))) Go.Proofs.Tryd.f19 .none [.str, (.int .u8)] (.slice 9 .str) 1 (.own .ro) = (S19 N).f := by kernel_rfl
theorem s19 (N : Nat) : Sat Go.Proofs.Tryd.prog 19 (S19 N) := sat_eq (ctx_nil tabs (by kernel_rfl)) Go.Proofs.Tryd.func19 (by kernel_rfl) (by kernel_rfl) (by decide) (by decide) (e19 N)
noncomputable def S25 (N : Nat) : Go.Rx.Spec := ⟨.none, [(.int .i64)], .str, 1, .ro, fun _ x => Px.spec_l1Num N x.1⟩
noncomputable def S25R (F : Int → Option (ByteArray × Unit)) : Go.Rx.Spec := ⟨.none, [(.int .i64)], .str, 1, .ro, fun _ x => F x.1⟩
theorem e25 (N : Nat) (kr : Int → Option (ByteArray × Unit)) : evalFn (ctx tab [(25, S25R kr)]) N .nil Go.Proofs.Tryd.f25 .none [(.int .i64)] .str 1 .ro = (S25R (Px.spec_l1Num_F N kr)).f := by kernel_rfl
theorem s25R (N : Nat) : ∀ m : Nat, Sat Go.Proofs.Tryd.prog 25 (S25R (Px.spec_l1Num_R N m))
  | 0 => sat_none Go.Proofs.Tryd.func25 (by kernel_rfl) (by kernel_rfl)
  | m + 1 => by
    have ih := s25R N m
    exact sat_eq (ctx_cons tabs (ctx_nil tabs (by kernel_rfl)) ih) Go.Proofs.Tryd.func25 (by kernel_rfl) (by kernel_rfl) (by decide) (by decide) (e25 N _)
theorem s25 (N : Nat) : Sat Go.Proofs.Tryd.prog 25 (S25 N) := s25R N N
noncomputable def S13 (N : Nat) : Go.Rx.Spec := ⟨.none, [(.int .i64), (.int .i64), (.int .i64)], .bool, 1, .ro, fun _ x => Px.spec_l1In N x.1 x.2.1 x.2.2.1⟩
theorem e13 (N : Nat) : evalFn (ctx tab []) N .nil Go.Proofs.Tryd.f13 .none [(.int .i64), (.int .i64), (.int .i64)] .bool 1 .ro = (S13 N).f := by kernel_rfl
theorem s13 (N : Nat) : Sat Go.Proofs.Tryd.prog 13 (S13 N) := sat_eq (ctx_nil tabs (by kernel_rfl)) Go.Proofs.Tryd.func13 (by kernel_rfl) (by kernel_rfl) (by decide) (by decide) (e13 N)
noncomputable def S32 (N : Nat) : Go.Rx.Spec := ⟨.none, [.str, (.int .i64)], .bool, 1, .ro, fun _ x => Px.spec_l12Bytes N x.1 x.2.1⟩
theorem e32 (N : Nat) : evalFn (ctx tab [(13, S13 N)]) N (.node none .nil (.node none (.node none .nil (.node (some ⟨28, [(0, .val .str), (1, .val (.int .i64))], []⟩) (.node (some ⟨28, [(0, .val .str), (1, .val (.int .i64)), (5, .val (.int .i64))], []⟩) .nil .nil) .nil)) .nil)) Go.Proofs.Tryd.f32 .none [.str, (.int .i64)] .bool 1 .ro = (S32 N).f := by kernel_rfl
theorem s32 (N : Nat) : Sat Go.Proofs.Tryd.prog 32 (S32 N) := sat_eq (ctx_cons tabs (ctx_nil tabs (by kernel_rfl)) (s13 N)) Go.Proofs.Tryd.func32 (by kernel_rfl) (by kernel_rfl) (by decide) (by decide) (e32 N)
noncomputable def S33 (N : Nat) : Go.Rx.Spec := ⟨.none, [.str, (.int .u8)], .bool, 1, .ro, fun _ x => Px.spec_l1Stands N x.1 x.2.1⟩
theorem e33 (N : Nat) : evalFn (ctx tab []) N (.node none .nil (.node none (.node none .nil (.node (some ⟨17, [], []⟩) (.node (some ⟨17, [(0, .val .str), (1, .val (.int .u8)), (5, .val (.int .i64))], []⟩) .nil .nil) .nil)) .nil)) Go.Proofs.Tryd.f33 .none [.str, (.int .u8)] .bool 1 .ro = (S33 N).f := by kernel_rfl
theorem s33 (N : Nat) : Sat Go.Proofs.Tryd.prog 33 (S33 N) := sat_eq (ctx_nil tabs (by kernel_rfl)) Go.Proofs.Tryd.func33 (by kernel_rfl) (by kernel_rfl) (by decide) (by decide) (e33 N)
noncomputable def S26 (N : Nat) : Go.Rx.Spec := ⟨.none, [(.prod .str .str)], .bool, 1, .ro, fun _ x => Px.spec_l12Record N x.1⟩
theorem e26 (N : Nat) : evalFn (ctx tab [(32, S32 N), (33, S33 N)]) N .nil Go.Proofs.Tryd.f26 .none [(.prod .str .str)] .bool 1 .ro = (S26 N).f := by kernel_rfl
theorem s26 (N : Nat) : Sat Go.Proofs.Tryd.prog 26 (S26 N) := sat_eq (ctx_cons tabs (ctx_cons tabs (ctx_nil tabs (by kernel_rfl)) (s33 N)) (s32 N)) Go.Proofs.Tryd.func26 (by kernel_rfl) (by kernel_rfl) (by decide) (by decide) (e26 N)
noncomputable def S41 (N : Nat) : Go.Rx.Spec := ⟨.none, [.str], (.int .i64), 1, .ro, fun _ x => Px.spec_l1Sum N x.1⟩
theorem e41 (N : Nat) : evalFn (ctx tab []) N (.node none .nil (.node none .nil (.node none (.node none .nil (.node (some ⟨21, [(3, .val (.int .i64))], []⟩) (.node (some ⟨21, [(0, .val .str), (3, .val (.int .i64)), (4, .val (.int .i64))], []⟩) .nil .nil) .nil)) .nil))) Go.Proofs.Tryd.f41 .none [.str] (.int .i64) 1 .ro = (S41 N).f := by kernel_rfl
theorem s41 (N : Nat) : Sat Go.Proofs.Tryd.prog 41 (S41 N) := sat_eq (ctx_nil tabs (by kernel_rfl)) Go.Proofs.Tryd.func41 (by kernel_rfl) (by kernel_rfl) (by decide) (by decide) (e41 N)
noncomputable def S34 (N : Nat) : Go.Rx.Spec := ⟨.none, [.str], .str, 1, .ro, fun _ x => Px.spec_l1Seal N x.1⟩
theorem e34 (N : Nat) : evalFn (ctx tab [(25, S25 N), (41, S41 N)]) N .nil Go.Proofs.Tryd.f34 .none [.str] .str 1 .ro = (S34 N).f := by kernel_rfl
theorem s34 (N : Nat) : Sat Go.Proofs.Tryd.prog 34 (S34 N) := sat_eq (ctx_cons tabs (ctx_cons tabs (ctx_nil tabs (by kernel_rfl)) (s41 N)) (s25 N)) Go.Proofs.Tryd.func34 (by kernel_rfl) (by kernel_rfl) (by decide) (by decide) (e34 N)
noncomputable def S27 (N : Nat) : Go.Rx.Spec := ⟨.none, [(.int .i64), (.prod .str .str)], .str, 1, .ro, fun _ x => Px.spec_l12Line N x.1 x.2.1⟩
theorem e27 (N : Nat) : evalFn (ctx tab [(25, S25 N), (34, S34 N)]) N .nil Go.Proofs.Tryd.f27 .none [(.int .i64), (.prod .str .str)] .str 1 .ro = (S27 N).f := by kernel_rfl
theorem s27 (N : Nat) : Sat Go.Proofs.Tryd.prog 27 (S27 N) := sat_eq (ctx_cons tabs (ctx_cons tabs (ctx_nil tabs (by kernel_rfl)) (s34 N)) (s25 N)) Go.Proofs.Tryd.func27 (by kernel_rfl) (by kernel_rfl) (by decide) (by decide) (e27 N)
noncomputable def S20 (N : Nat) : Go.Rx.Spec := ⟨.none, [.str, (.int .i64)], (.prod (.prod .str .str) .bool), 2, .ro, fun _ x => Px.spec_l12Decode N x.1 x.2.1⟩
theorem e20 (N : Nat) : evalFn (ctx tab [(19, S19 N), (25, S25 N), (26, S26 N), (27, S27 N)]) N .nil Go.Proofs.Tryd.f20 .none [.str, (.int .i64)] (.prod (.prod .str .str) .bool) 2 .ro = (S20 N).f := by kernel_rfl
theorem s20 (N : Nat) : Sat Go.Proofs.Tryd.prog 20 (S20 N) := sat_eq (ctx_cons tabs (ctx_cons tabs (ctx_cons tabs (ctx_cons tabs (ctx_nil tabs (by kernel_rfl)) (s27 N)) (s26 N)) (s25 N)) (s19 N)) Go.Proofs.Tryd.func20 (by kernel_rfl) (by kernel_rfl) (by decide) (by decide) (e20 N)
noncomputable def S16 (N : Nat) : Go.Rx.Spec := ⟨.none, [.str], (.prod (.slice 47 (.prod .str .str)) (.int .i64)), 2, (.pr (.own .ro) .ro), fun _ x => Px.spec_l12Open N x.1⟩
theorem e16 (N : Nat) : evalFn (ctx tab [(19, S19 N), (20, S20 N)]) N (.node none .nil (.node none .nil (.node none .nil (.node none (.node (some ⟨52, [(4, .vw 9 []), (5, .val (.int .i64))], [⟨9, false, false, (.own .ro), (.slice 47 (.prod .str .str))⟩]⟩) (.node (some ⟨52, [(0, .val .str), (4, .vw 9 []), (5, .val (.int .i64))], [⟨9, false, false, (.own .ro), (.slice 47 (.prod .str .str))⟩]⟩) .nil .nil) .nil) .nil)))) Go.Proofs.Tryd.f16 .none [.str] (.prod (.slice 47 (.prod .str .str)) (.int .i64)) 2 (.pr (.own .ro) .ro) = (S16 N).f := by kernel_rfl
theorem s16 (N : Nat) : Sat Go.Proofs.Tryd.prog 16 (S16 N) := sat_eq (ctx_cons tabs (ctx_cons tabs (ctx_nil tabs (by kernel_rfl)) (s20 N)) (s19 N)) Go.Proofs.Tryd.func16 (by kernel_rfl) (by kernel_rfl) (by decide) (by decide) (e16 N)
noncomputable def S12 (N : Nat) : Go.Rx.Spec := ⟨.none, [(.prod .str (.prod .str (.int .i64)))], .bool, 1, .ro, fun _ x => Px.spec_l12Valid N x.1⟩
theorem e12 (N : Nat) : evalFn (ctx tab [(16, S16 N)]) N .nil Go.Proofs.Tryd.f12 .none [(.prod .str (.prod .str (.int .i64)))] .bool 1 .ro = (S12 N).f := by kernel_rfl
theorem s12 (N : Nat) : Sat Go.Proofs.Tryd.prog 12 (S12 N) := sat_eq (ctx_cons tabs (ctx_nil tabs (by kernel_rfl)) (s16 N)) Go.Proofs.Tryd.func12 (by kernel_rfl) (by kernel_rfl) (by decide) (by decide) (e12 N)
noncomputable def S9 (N : Nat) : Go.Rx.Spec := ⟨.none, [(.prod .str (.prod .str (.int .i64)))], (.prod (.prod .str (.prod .str (.int .i64))) .bool), 2, .ro, fun _ x => Px.spec_SyncLog N x.1⟩
theorem e9 (N : Nat) : evalFn (ctx tab [(12, S12 N)]) N .nil Go.Proofs.Tryd.f9 .none [(.prod .str (.prod .str (.int .i64)))] (.prod (.prod .str (.prod .str (.int .i64))) .bool) 2 .ro = (S9 N).f := by kernel_rfl
theorem s9 (N : Nat) : Sat Go.Proofs.Tryd.prog 9 (S9 N) := sat_eq (ctx_cons tabs (ctx_nil tabs (by kernel_rfl)) (s12 N)) Go.Proofs.Tryd.func9 (by kernel_rfl) (by kernel_rfl) (by decide) (by decide) (e9 N)
noncomputable def S21 (N : Nat) : Go.Rx.Spec := ⟨.none, [.str, .str], (.prod .str (.prod .str .bool)), 3, .ro, fun _ x => Px.strings_Cut N x.1 x.2.1⟩
theorem s21 (N : Nat) : Sat Go.Proofs.Tryd.prog 21 (S21 N) := sat_cut gm Go.Proofs.Tryd.func21 (by kernel_rfl) (by kernel_rfl) Go.Proofs.Tryd.strings_Cut
noncomputable def S31 (N : Nat) : Go.Rx.Spec := ⟨.none, [(.int .i64)], .str, 1, .ro, fun _ x => Px.strconv_Itoa N x.1⟩
theorem s31 (N : Nat) : Sat Go.Proofs.Tryd.prog 31 (S31 N) := sat_itoa gm Go.Proofs.Tryd.func31 (by kernel_rfl) (by kernel_rfl) Go.Proofs.Tryd.strconv_Itoa
noncomputable def S36 (N : Nat) : Go.Rx.Spec := ⟨.none, [.str, .str], .bool, 1, .ro, fun _ x => Px.strings_Contains N x.1 x.2.1⟩
theorem s36 (N : Nat) : Sat Go.Proofs.Tryd.prog 36 (S36 N) := sat_contains gm Go.Proofs.Tryd.func36 (by kernel_rfl) (by kernel_rfl) Go.Proofs.Tryd.strings_Contains
noncomputable def S37 (N : Nat) : Go.Rx.Spec := ⟨.none, [.str], (.int .i64), 1, .ro, fun _ x => Px.impl_checksum N x.1⟩
theorem e37 (N : Nat) : evalFn (ctx tab []) N (.node none .nil (.node none .nil (.node none (.node none .nil (.node (some ⟨21, [(3, .val (.int .i64))], []⟩) (.node (some ⟨21, [(0, .val .str), (3, .val (.int .i64)), (6, .val (.int .i64)), (7, .val (.int .i64))], []⟩) .nil .nil) .nil)) .nil))) Go.Proofs.Tryd.f37 .none [.str] (.int .i64) 1 .ro = (S37 N).f := by kernel_rfl
theorem s37 (N : Nat) : Sat Go.Proofs.Tryd.prog 37 (S37 N) := sat_eq (ctx_nil tabs (by kernel_rfl)) Go.Proofs.Tryd.func37 (by kernel_rfl) (by kernel_rfl) (by decide) (by decide) (e37 N)
noncomputable def S29 (N : Nat) : Go.Rx.Spec := ⟨.none, [.str], (.prod .str .bool), 2, .ro, fun _ x => Px.impl_AppendChecksum N x.1⟩
theorem e29 (N : Nat) : evalFn (ctx tab [(31, S31 N), (36, S36 N), (37, S37 N)]) N .nil Go.Proofs.Tryd.f29 .none [.str] (.prod .str .bool) 2 .ro = (S29 N).f := by kernel_rfl
theorem s29 (N : Nat) : Sat Go.Proofs.Tryd.prog 29 (S29 N) := sat_eq (ctx_cons tabs (ctx_cons tabs (ctx_cons tabs (ctx_nil tabs (by kernel_rfl)) (s37 N)) (s36 N)) (s31 N)) Go.Proofs.Tryd.func29 (by kernel_rfl) (by kernel_rfl) (by decide) (by decide) (e29 N)
noncomputable def S22 (N : Nat) : Go.Rx.Spec := ⟨.none, [.str], (.prod .str .bool), 2, .ro, fun _ x => Px.impl_VerifyChecksum N x.1⟩
theorem e22 (N : Nat) : evalFn (ctx tab [(21, S21 N), (29, S29 N)]) N .nil Go.Proofs.Tryd.f22 .none [.str] (.prod .str .bool) 2 .ro = (S22 N).f := by kernel_rfl
theorem s22 (N : Nat) : Sat Go.Proofs.Tryd.prog 22 (S22 N) := sat_eq (ctx_cons tabs (ctx_cons tabs (ctx_nil tabs (by kernel_rfl)) (s29 N)) (s21 N)) Go.Proofs.Tryd.func22 (by kernel_rfl) (by kernel_rfl) (by decide) (by decide) (e22 N)
noncomputable def S15 (N : Nat) : Go.Rx.Spec := ⟨.none, [(.int .i64), (.int .i64), (.int .i64)], .bool, 1, .ro, fun _ x => Px.impl_within N x.1 x.2.1 x.2.2.1⟩
theorem e15 (N : Nat) : evalFn (ctx tab []) N .nil Go.Proofs.Tryd.f15 .none [(.int .i64), (.int .i64), (.int .i64)] .bool 1 .ro = (S15 N).f := by kernel_rfl
theorem s15 (N : Nat) : Sat Go.Proofs.Tryd.prog 15 (S15 N) := sat_eq (ctx_nil tabs (by kernel_rfl)) Go.Proofs.Tryd.func15 (by kernel_rfl) (by kernel_rfl) (by decide) (by decide) (e15 N)
noncomputable def S47 (N : Nat) : Go.Rx.Spec := ⟨.none, [.str, .str], .bool, 1, .ro, fun _ x => Px.strings_ContainsAny N x.1 x.2.1⟩
theorem s47 (N : Nat) : Sat Go.Proofs.Tryd.prog 47 (S47 N) := sat_containsAny Go.Proofs.Tryd.func47 (by kernel_rfl) (by kernel_rfl) Go.Proofs.Tryd.strings_ContainsAny_laid
noncomputable def S39 (N : Nat) : Go.Rx.Spec := ⟨.none, [.str, (.int .i64), .str], .bool, 1, .ro, fun _ x => Px.impl_isPlain N x.1 x.2.1 x.2.2.1⟩
theorem e39 (N : Nat) : evalFn (ctx tab [(47, S47 N)]) N (.node none .nil (.node none (.node none .nil (.node (some ⟨34, [(0, .val .str), (1, .val (.int .i64)), (2, .val .str)], []⟩) (.node (some ⟨34, [(0, .val .str), (1, .val (.int .i64)), (2, .val .str), (9, .val (.int .i64)), (10, .val (.int .i64))], []⟩) .nil .nil) .nil)) .nil)) Go.Proofs.Tryd.f39 .none [.str, (.int .i64), .str] .bool 1 .ro = (S39 N).f := by kernel_rfl
theorem s39 (N : Nat) : Sat Go.Proofs.Tryd.prog 39 (S39 N) := sat_eq (ctx_cons tabs (ctx_nil tabs (by kernel_rfl)) (s47 N)) Go.Proofs.Tryd.func39 (by kernel_rfl) (by kernel_rfl) (by decide) (by decide) (e39 N)
noncomputable def S38 (N : Nat) : Go.Rx.Spec := ⟨.none, [.str], .bool, 1, .ro, fun _ x => Px.impl_isCommand N x.1⟩
theorem e38 (N : Nat) : evalFn (ctx tab [(39, S39 N)]) N .nil Go.Proofs.Tryd.f38 .none [.str] .bool 1 .ro = (S38 N).f := by kernel_rfl
theorem s38 (N : Nat) : Sat Go.Proofs.Tryd.prog 38 (S38 N) := sat_eq (ctx_cons tabs (ctx_nil tabs (by kernel_rfl)) (s39 N)) Go.Proofs.Tryd.func38 (by kernel_rfl) (by kernel_rfl) (by decide) (by decide) (e38 N)
noncomputable def S30 (N : Nat) : Go.Rx.Spec := ⟨.none, [(.prod .str .str)], .bool, 1, .ro, fun _ x => Px.impl_IsValidRecord N x.1⟩
theorem e30 (N : Nat) : evalFn (ctx tab [(38, S38 N), (39, S39 N)]) N .nil Go.Proofs.Tryd.f30 .none [(.prod .str .str)] .bool 1 .ro = (S30 N).f := by kernel_rfl
theorem s30 (N : Nat) : Sat Go.Proofs.Tryd.prog 30 (S30 N) := sat_eq (ctx_cons tabs (ctx_cons tabs (ctx_nil tabs (by kernel_rfl)) (s39 N)) (s38 N)) Go.Proofs.Tryd.func30 (by kernel_rfl) (by kernel_rfl) (by decide) (by decide) (e30 N)
noncomputable def S23 (N : Nat) : Go.Rx.Spec := ⟨.none, [(.int .i64), (.prod .str .str)], (.prod .str .bool), 2, .ro, fun _ x => Px.impl_EncodeRecord N x.1 x.2.1⟩
theorem e23 (N : Nat) : evalFn (ctx tab [(15, S15 N), (29, S29 N), (30, S30 N), (31, S31 N)]) N .nil Go.Proofs.Tryd.f23 .none [(.int .i64), (.prod .str .str)] (.prod .str .bool) 2 .ro = (S23 N).f := by kernel_rfl
theorem s23 (N : Nat) : Sat Go.Proofs.Tryd.prog 23 (S23 N) := sat_eq (ctx_cons tabs (ctx_cons tabs (ctx_cons tabs (ctx_cons tabs (ctx_nil tabs (by kernel_rfl)) (s31 N)) (s30 N)) (s29 N)) (s15 N)) Go.Proofs.Tryd.func23 (by kernel_rfl) (by kernel_rfl) (by decide) (by decide) (e23 N)
noncomputable def S17 (N : Nat) : Go.Rx.Spec := ⟨.none, [.str], (.prod (.slice 47 (.prod .str .str)) (.slice 3 (.int .i64))), 2, (.pr (.own .ro) (.own .ro)), fun _ x => Px.impl_readRecords N x.1⟩
theorem e17 (N : Nat) : evalFn (ctx tab [(21, S21 N), (22, S22 N), (23, S23 N)]) N (.node none .nil (.node none .nil (.node none (.node (some ⟨83, [(4, .vw 18 []), (5, .vw 19 [])], [⟨18, false, false, (.own .ro), (.slice 47 (.prod .str .str))⟩, ⟨19, false, false, (.own .ro), (.slice 3 (.int .i64))⟩]⟩) (.node (some ⟨83, [(0, .val .str), (4, .vw 18 []), (5, .vw 19 []), (6, .val (.int .i64))], [⟨18, false, false, (.own .ro), (.slice 47 (.prod .str .str))⟩, ⟨19, false, false, (.own .ro), (.slice 3 (.int .i64))⟩]⟩) .nil .nil) .nil) .nil))) Go.Proofs.Tryd.f17 .none [.str] (.prod (.slice 47 (.prod .str .str)) (.slice 3 (.int .i64))) 2 (.pr (.own .ro) (.own .ro)) = (S17 N).f := by kernel_rfl
theorem s17 (N : Nat) : Sat Go.Proofs.Tryd.prog 17 (S17 N) := sat_eq (ctx_cons tabs (ctx_cons tabs (ctx_cons tabs (ctx_nil tabs (by kernel_rfl)) (s23 N)) (s22 N)) (s21 N)) Go.Proofs.Tryd.func17 (by kernel_rfl) (by kernel_rfl) (by decide) (by decide) (e17 N)
noncomputable def S24 (N : Nat) : Go.Rx.Spec := ⟨.none, [(.slice 3 (.int .i64)), (.int .i64)], (.int .i64), 1, .ro, fun _ x => Px.slices_Index_int_int N x.1 x.2.1⟩
theorem e24 (N : Nat) : evalFn (ctx tab []) N (.node none .nil (.node none (.node none .nil (.node (some ⟨19, [], []⟩) (.node (some ⟨19, [(0, .val (.slice 3 (.int .i64))), (1, .val (.int .i64)), (7, .val (.int .i64)), (8, .val (.int .i64))], []⟩) .nil .nil) .nil)) .nil)) Go.Proofs.Tryd.f24 .none [(.slice 3 (.int .i64)), (.int .i64)] (.int .i64) 1 .ro = (S24 N).f := by kernel_rfl
theorem s24 (N : Nat) : Sat Go.Proofs.Tryd.prog 24 (S24 N) := sat_eq (ctx_nil tabs (by kernel_rfl)) Go.Proofs.Tryd.func24 (by kernel_rfl) (by kernel_rfl) (by decide) (by decide) (e24 N)
noncomputable def S18 (N : Nat) : Go.Rx.Spec := ⟨.none, [(.slice 3 (.int .i64)), (.int .i64)], .bool, 1, .ro, fun _ x => Px.slices_Contains_int_int N x.1 x.2.1⟩
theorem e18 (N : Nat) : evalFn (ctx tab [(24, S24 N)]) N .nil Go.Proofs.Tryd.f18 .none [(.slice 3 (.int .i64)), (.int .i64)] .bool 1 .ro = (S18 N).f := by kernel_rfl
theorem s18 (N : Nat) : Sat Go.Proofs.Tryd.prog 18 (S18 N) := sat_eq (ctx_cons tabs (ctx_nil tabs (by kernel_rfl)) (s24 N)) Go.Proofs.Tryd.func18 (by kernel_rfl) (by kernel_rfl) (by decide) (by decide) (e18 N)
noncomputable def S14 (N : Nat) : Go.Rx.Spec := ⟨.none, [(.prod .str (.prod .str (.int .i64)))], .bool, 1, .ro, fun _ x => Px.impl_IsValidLog N x.1⟩
theorem e14 (N : Nat) : evalFn (ctx tab [(17, S17 N), (18, S18 N)]) N .nil Go.Proofs.Tryd.f14 .none [(.prod .str (.prod .str (.int .i64)))] .bool 1 .ro = (S14 N).f := by kernel_rfl
theorem s14 (N : Nat) : Sat Go.Proofs.Tryd.prog 14 (S14 N) := sat_eq (ctx_cons tabs (ctx_cons tabs (ctx_nil tabs (by kernel_rfl)) (s18 N)) (s17 N)) Go.Proofs.Tryd.func14 (by kernel_rfl) (by kernel_rfl) (by decide) (by decide) (e14 N)
noncomputable def S10 (N : Nat) : Go.Rx.Spec := ⟨.none, [(.prod .str (.prod .str (.int .i64)))], (.prod (.prod .str (.prod .str (.int .i64))) .bool), 2, .ro, fun _ x => Px.impl_SyncLog N x.1⟩
theorem e10 (N : Nat) : evalFn (ctx tab [(14, S14 N)]) N .nil Go.Proofs.Tryd.f10 .none [(.prod .str (.prod .str (.int .i64)))] (.prod (.prod .str (.prod .str (.int .i64))) .bool) 2 .ro = (S10 N).f := by kernel_rfl
theorem s10 (N : Nat) : Sat Go.Proofs.Tryd.prog 10 (S10 N) := sat_eq (ctx_cons tabs (ctx_nil tabs (by kernel_rfl)) (s14 N)) Go.Proofs.Tryd.func10 (by kernel_rfl) (by kernel_rfl) (by decide) (by decide) (e10 N)
noncomputable def S11 (N : Nat) : Go.Rx.Spec := ⟨.none, [(.prod .str (.prod .str (.int .i64))), (.prod .str (.prod .str (.int .i64)))], .bool, 1, .ro, fun _ x => Px.laws_eqLog N x.1 x.2.1⟩
theorem e11 (N : Nat) : evalFn (ctx tab []) N .nil Go.Proofs.Tryd.f11 .none [(.prod .str (.prod .str (.int .i64))), (.prod .str (.prod .str (.int .i64)))] .bool 1 .ro = (S11 N).f := by kernel_rfl
theorem s11 (N : Nat) : Sat Go.Proofs.Tryd.prog 11 (S11 N) := sat_eq (ctx_nil tabs (by kernel_rfl)) Go.Proofs.Tryd.func11 (by kernel_rfl) (by kernel_rfl) (by decide) (by decide) (e11 N)
noncomputable def S4 (N : Nat) : Go.Rx.Spec := ⟨.none, [(.prod .str (.prod .str (.int .i64)))], .bool, 1, .ro, fun _ x => Px.laws_FnExactSyncLog N x.1⟩
theorem e4 (N : Nat) : evalFn (ctx tab [(5, S5 N), (7, S7 N), (9, S9 N), (10, S10 N), (11, S11 N)]) N .nil Go.Proofs.Tryd.f4 .none [(.prod .str (.prod .str (.int .i64)))] .bool 1 .ro = (S4 N).f := by kernel_rfl
theorem s4 (N : Nat) : Sat Go.Proofs.Tryd.prog 4 (S4 N) := sat_eq (ctx_cons tabs (ctx_cons tabs (ctx_cons tabs (ctx_cons tabs (ctx_cons tabs (ctx_nil tabs (by kernel_rfl)) (s11 N)) (s10 N)) (s9 N)) (s7 N)) (s5 N)) Go.Proofs.Tryd.func4 (by kernel_rfl) (by kernel_rfl) (by decide) (by decide) (e4 N)
end Go.Proofs.YtogbimnakonbpaaDoor.RsFnExactSyncLog
