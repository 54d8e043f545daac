/- This text proves that the Go functions behind FnExactEncodeRecord compute the plain functions; no condition. -/
import Derived.Test.YtkahcjhdjnaecaaDoorProg
import Derived.Test.YtkahcjhdjnaecaaDoorPxFnExactEncodeRecord
import Derived.Test.YtkahcjhdjnaecaaDoorLayFnExactEncodeRecord
set_option linter.unusedVariables false
set_option linter.unusedSimpArgs false
namespace Go.Proofs.YtkahcjhdjnaecaaDoor.RsFnExactEncodeRecord
open Go.Rx
def tab : List (Nat × TI) := [
  (2, ⟨(.int .i64), 0, 8⟩),
  (3, ⟨(.int .i64), 0, 8⟩),
  (4, ⟨.bool, 0, 1⟩),
  (5, ⟨(.int .u8), 0, 1⟩),
  (6, ⟨(.int .u8), 0, 1⟩),
  (7, ⟨(.prod (.int .i64) (.prod (.int .i64) (.prod .bool (.int .u8)))), 4, 24⟩),
  (8, ⟨(.prod (.int .i64) (.prod (.int .i64) (.prod .bool (.int .u8)))), 4, 24⟩),
  (9, ⟨.str, 0, 16⟩),
  (10, ⟨.str, 0, 16⟩),
  (11, ⟨.str, 0, 16⟩),
  (12, ⟨(.int .u64), 0, 8⟩),
  (13, ⟨(.prod .str (.int .u64)), 2, 24⟩),
  (14, ⟨(.prod .str (.int .u64)), 2, 24⟩),
  (20, ⟨.err, 0, 16⟩),
  (21, ⟨(.int .i32), 0, 4⟩),
  (22, ⟨(.prod .str .str), 2, 32⟩),
  (23, ⟨(.prod .str .str), 2, 32⟩),
  (27, ⟨(.prod .str .str), 2, 32⟩),
  (44, ⟨(.arr 24 (.int .u8)), 0, 24⟩),
  (45, ⟨(.int .u64), 0, 8⟩),
  (48, ⟨(.slice 5 (.int .u8)), 0, 24⟩),
  (53, ⟨(.arr 256 .bool), 0, 256⟩),
  (54, ⟨(.arr 256 .bool), 0, 256⟩),
  (60, ⟨(.int .u64), 0, 8⟩),
  (62, ⟨(.arr 20 (.int .u64)), 0, 160⟩),
  (63, ⟨(.int .u32), 0, 4⟩),
  (64, ⟨(.arr 65 (.int .u8)), 0, 65⟩),
  (71, ⟨(.arr 32 (.int .u8)), 0, 32⟩),
  (72, ⟨(.arr 64 (.int .u8)), 0, 64⟩),
  (80, ⟨(.int .u8), 0, 1⟩),
  (81, ⟨(.int .u8), 0, 1⟩),
  (84, ⟨(.int .i32), 0, 4⟩),
  (85, ⟨(.int .i32), 0, 4⟩)]
abbrev gm : Nat := 0
instance laidI : Laid Go.Proofs.Tryd.prog := doorLaid Go.Proofs.Tryd.prog gm
theorem tabs : ∀ l, TabOk Go.Proofs.Tryd.prog (ctx tab l) := tab_all (by kernel_rfl)
noncomputable def S4 (N : Nat) : Go.Rx.Spec := ⟨.none, [(.prod .str .str), (.int .i64)], (.int .i64), 1, .ro, fun _ x => Px.laws_szLogRecord N x.1 x.2.1⟩
theorem e4 (N : Nat) : evalFn (ctx tab []) N .nil Go.Proofs.Tryd.f4 .none [(.prod .str .str), (.int .i64)] (.int .i64) 1 .ro = (S4 N).f := by kernel_rfl
theorem s4 (N : Nat) : Sat Go.Proofs.Tryd.prog 4 (S4 N) := sat_eq (ctx_nil tabs (by kernel_rfl)) Go.Proofs.Tryd.func4 (by kernel_rfl) (by kernel_rfl) (by decide) (by decide) (e4 N)
noncomputable def S8 (N : Nat) : Go.Rx.Spec := ⟨.none, [(.int .i64), (.int .i64), (.int .i64)], .bool, 1, .ro, fun _ x => Px.spec_l1In N x.1 x.2.1 x.2.2.1⟩
theorem e8 (N : Nat) : evalFn (ctx tab []) N .nil Go.Proofs.Tryd.f8 .none [(.int .i64), (.int .i64), (.int .i64)] .bool 1 .ro = (S8 N).f := by kernel_rfl
theorem s8 (N : Nat) : Sat Go.Proofs.Tryd.prog 8 (S8 N) := sat_eq (ctx_nil tabs (by kernel_rfl)) Go.Proofs.Tryd.func8 (by kernel_rfl) (by kernel_rfl) (by decide) (by decide) (e8 N)
noncomputable def S15 (N : Nat) : Go.Rx.Spec := ⟨.none, [.str, (.int .i64)], .bool, 1, .ro, fun _ x => Px.spec_l12Bytes N x.1 x.2.1⟩
theorem e15 (N : Nat) : evalFn (ctx tab [(8, S8 N)]) N (.node none .nil (.node none (.node none .nil (.node (some ⟨28, [(0, .val .str), (1, .val (.int .i64))], []⟩) (.node (some ⟨28, [(0, .val .str), (1, .val (.int .i64)), (5, .val (.int .i64))], []⟩) .nil .nil) .nil)) .nil)) Go.Proofs.Tryd.f15 .none [.str, (.int .i64)] .bool 1 .ro = (S15 N).f := by kernel_rfl
theorem s15 (N : Nat) : Sat Go.Proofs.Tryd.prog 15 (S15 N) := sat_eq (ctx_cons tabs (ctx_nil tabs (by kernel_rfl)) (s8 N)) Go.Proofs.Tryd.func15 (by kernel_rfl) (by kernel_rfl) (by decide) (by decide) (e15 N)
noncomputable def S16 (N : Nat) : Go.Rx.Spec := ⟨.none, [.str, (.int .u8)], .bool, 1, .ro, fun _ x => Px.spec_l1Stands N x.1 x.2.1⟩
theorem e16 (N : Nat) : evalFn (ctx tab []) N (.node none .nil (.node none (.node none .nil (.node (some ⟨17, [], []⟩) (.node (some ⟨17, [(0, .val .str), (1, .val (.int .u8)), (5, .val (.int .i64))], []⟩) .nil .nil) .nil)) .nil)) Go.Proofs.Tryd.f16 .none [.str, (.int .u8)] .bool 1 .ro = (S16 N).f := by kernel_rfl
theorem s16 (N : Nat) : Sat Go.Proofs.Tryd.prog 16 (S16 N) := sat_eq (ctx_nil tabs (by kernel_rfl)) Go.Proofs.Tryd.func16 (by kernel_rfl) (by kernel_rfl) (by decide) (by decide) (e16 N)
noncomputable def S9 (N : Nat) : Go.Rx.Spec := ⟨.none, [(.prod .str .str)], .bool, 1, .ro, fun _ x => Px.spec_l12Record N x.1⟩
theorem e9 (N : Nat) : evalFn (ctx tab [(15, S15 N), (16, S16 N)]) N .nil Go.Proofs.Tryd.f9 .none [(.prod .str .str)] .bool 1 .ro = (S9 N).f := by kernel_rfl
theorem s9 (N : Nat) : Sat Go.Proofs.Tryd.prog 9 (S9 N) := sat_eq (ctx_cons tabs (ctx_cons tabs (ctx_nil tabs (by kernel_rfl)) (s16 N)) (s15 N)) Go.Proofs.Tryd.func9 (by kernel_rfl) (by kernel_rfl) (by decide) (by decide) (e9 N)
noncomputable def S18 (N : Nat) : Go.Rx.Spec := ⟨.none, [(.int .i64)], .str, 1, .ro, fun _ x => Px.spec_l1Num N x.1⟩
noncomputable def S18R (F : Int → Option (ByteArray × Unit)) : Go.Rx.Spec := ⟨.none, [(.int .i64)], .str, 1, .ro, fun _ x => F x.1⟩
theorem e18 (N : Nat) (kr : Int → Option (ByteArray × Unit)) : evalFn (ctx tab [(18, S18R kr)]) N .nil Go.Proofs.Tryd.f18 .none [(.int .i64)] .str 1 .ro = (S18R (Px.spec_l1Num_F N kr)).f := by kernel_rfl
theorem s18R (N : Nat) : ∀ m : Nat, Sat Go.Proofs.Tryd.prog 18 (S18R (Px.spec_l1Num_R N m))
  | 0 => sat_none Go.Proofs.Tryd.func18 (by kernel_rfl) (by kernel_rfl)
  | m + 1 => by
    have ih := s18R N m
    exact sat_eq (ctx_cons tabs (ctx_nil tabs (by kernel_rfl)) ih) Go.Proofs.Tryd.func18 (by kernel_rfl) (by kernel_rfl) (by decide) (by decide) (e18 N _)
theorem s18 (N : Nat) : Sat Go.Proofs.Tryd.prog 18 (S18 N) := s18R N N
noncomputable def S24 (N : Nat) : Go.Rx.Spec := ⟨.none, [.str], (.int .i64), 1, .ro, fun _ x => Px.spec_l1Sum N x.1⟩
theorem e24 (N : Nat) : evalFn (ctx tab []) N (.node none .nil (.node none .nil (.node none (.node none .nil (.node (some ⟨21, [(3, .val (.int .i64))], []⟩) (.node (some ⟨21, [(0, .val .str), (3, .val (.int .i64)), (4, .val (.int .i64))], []⟩) .nil .nil) .nil)) .nil))) Go.Proofs.Tryd.f24 .none [.str] (.int .i64) 1 .ro = (S24 N).f := by kernel_rfl
theorem s24 (N : Nat) : Sat Go.Proofs.Tryd.prog 24 (S24 N) := sat_eq (ctx_nil tabs (by kernel_rfl)) Go.Proofs.Tryd.func24 (by kernel_rfl) (by kernel_rfl) (by decide) (by decide) (e24 N)
noncomputable def S17 (N : Nat) : Go.Rx.Spec := ⟨.none, [.str], .str, 1, .ro, fun _ x => Px.spec_l1Seal N x.1⟩
theorem e17 (N : Nat) : evalFn (ctx tab [(18, S18 N), (24, S24 N)]) N .nil Go.Proofs.Tryd.f17 .none [.str] .str 1 .ro = (S17 N).f := by kernel_rfl
theorem s17 (N : Nat) : Sat Go.Proofs.Tryd.prog 17 (S17 N) := sat_eq (ctx_cons tabs (ctx_cons tabs (ctx_nil tabs (by kernel_rfl)) (s24 N)) (s18 N)) Go.Proofs.Tryd.func17 (by kernel_rfl) (by kernel_rfl) (by decide) (by decide) (e17 N)
noncomputable def S10 (N : Nat) : Go.Rx.Spec := ⟨.none, [(.int .i64), (.prod .str .str)], .str, 1, .ro, fun _ x => Px.spec_l12Line N x.1 x.2.1⟩
theorem e10 (N : Nat) : evalFn (ctx tab [(17, S17 N), (18, S18 N)]) N .nil Go.Proofs.Tryd.f10 .none [(.int .i64), (.prod .str .str)] .str 1 .ro = (S10 N).f := by kernel_rfl
theorem s10 (N : Nat) : Sat Go.Proofs.Tryd.prog 10 (S10 N) := sat_eq (ctx_cons tabs (ctx_cons tabs (ctx_nil tabs (by kernel_rfl)) (s18 N)) (s17 N)) Go.Proofs.Tryd.func10 (by kernel_rfl) (by kernel_rfl) (by decide) (by decide) (e10 N)
noncomputable def S5 (N : Nat) : Go.Rx.Spec := ⟨.none, [(.int .i64), (.prod .str .str)], (.prod .str .bool), 2, .ro, fun _ x => Px.spec_EncodeRecord N x.1 x.2.1⟩
theorem e5 (N : Nat) : evalFn (ctx tab [(8, S8 N), (9, S9 N), (10, S10 N)]) N .nil Go.Proofs.Tryd.f5 .none [(.int .i64), (.prod .str .str)] (.prod .str .bool) 2 .ro = (S5 N).f := by kernel_rfl
theorem s5 (N : Nat) : Sat Go.Proofs.Tryd.prog 5 (S5 N) := sat_eq (ctx_cons tabs (ctx_cons tabs (ctx_cons tabs (ctx_nil tabs (by kernel_rfl)) (s10 N)) (s9 N)) (s8 N)) Go.Proofs.Tryd.func5 (by kernel_rfl) (by kernel_rfl) (by decide) (by decide) (e5 N)
noncomputable def S6 (N : Nat) : Go.Rx.Spec := ⟨.none, [(.prod .str .str)], (.prod .str .str), 1, .ro, fun _ x => Px.laws_toLogRecord N x.1⟩
theorem e6 (N : Nat) : evalFn (ctx tab []) N .nil Go.Proofs.Tryd.f6 .none [(.prod .str .str)] (.prod .str .str) 1 .ro = (S6 N).f := by kernel_rfl
theorem s6 (N : Nat) : Sat Go.Proofs.Tryd.prog 6 (S6 N) := sat_eq (ctx_nil tabs (by kernel_rfl)) Go.Proofs.Tryd.func6 (by kernel_rfl) (by kernel_rfl) (by decide) (by decide) (e6 N)
noncomputable def S11 (N : Nat) : Go.Rx.Spec := ⟨.none, [(.int .i64), (.int .i64), (.int .i64)], .bool, 1, .ro, fun _ x => Px.impl_within N x.1 x.2.1 x.2.2.1⟩
theorem e11 (N : Nat) : evalFn (ctx tab []) N .nil Go.Proofs.Tryd.f11 .none [(.int .i64), (.int .i64), (.int .i64)] .bool 1 .ro = (S11 N).f := by kernel_rfl
theorem s11 (N : Nat) : Sat Go.Proofs.Tryd.prog 11 (S11 N) := sat_eq (ctx_nil tabs (by kernel_rfl)) Go.Proofs.Tryd.func11 (by kernel_rfl) (by kernel_rfl) (by decide) (by decide) (e11 N)
noncomputable def S25 (N : Nat) : Go.Rx.Spec := ⟨.none, [.str, .str], .bool, 1, .ro, fun _ x => Px.strings_ContainsAny N x.1 x.2.1⟩
theorem s25 (N : Nat) : Sat Go.Proofs.Tryd.prog 25 (S25 N) := sat_containsAny Go.Proofs.Tryd.func25 (by kernel_rfl) (by kernel_rfl) Go.Proofs.Tryd.strings_ContainsAny_laid
noncomputable def S20 (N : Nat) : Go.Rx.Spec := ⟨.none, [.str, (.int .i64), .str], .bool, 1, .ro, fun _ x => Px.impl_isPlain N x.1 x.2.1 x.2.2.1⟩
theorem e20 (N : Nat) : evalFn (ctx tab [(25, S25 N)]) N (.node none .nil (.node none (.node none .nil (.node (some ⟨34, [(0, .val .str), (1, .val (.int .i64)), (2, .val .str)], []⟩) (.node (some ⟨34, [(0, .val .str), (1, .val (.int .i64)), (2, .val .str), (9, .val (.int .i64)), (10, .val (.int .i64))], []⟩) .nil .nil) .nil)) .nil)) Go.Proofs.Tryd.f20 .none [.str, (.int .i64), .str] .bool 1 .ro = (S20 N).f := by kernel_rfl
theorem s20 (N : Nat) : Sat Go.Proofs.Tryd.prog 20 (S20 N) := sat_eq (ctx_cons tabs (ctx_nil tabs (by kernel_rfl)) (s25 N)) Go.Proofs.Tryd.func20 (by kernel_rfl) (by kernel_rfl) (by decide) (by decide) (e20 N)
noncomputable def S19 (N : Nat) : Go.Rx.Spec := ⟨.none, [.str], .bool, 1, .ro, fun _ x => Px.impl_isCommand N x.1⟩
theorem e19 (N : Nat) : evalFn (ctx tab [(20, S20 N)]) N .nil Go.Proofs.Tryd.f19 .none [.str] .bool 1 .ro = (S19 N).f := by kernel_rfl
theorem s19 (N : Nat) : Sat Go.Proofs.Tryd.prog 19 (S19 N) := sat_eq (ctx_cons tabs (ctx_nil tabs (by kernel_rfl)) (s20 N)) Go.Proofs.Tryd.func19 (by kernel_rfl) (by kernel_rfl) (by decide) (by decide) (e19 N)
noncomputable def S12 (N : Nat) : Go.Rx.Spec := ⟨.none, [(.prod .str .str)], .bool, 1, .ro, fun _ x => Px.impl_IsValidRecord N x.1⟩
theorem e12 (N : Nat) : evalFn (ctx tab [(19, S19 N), (20, S20 N)]) N .nil Go.Proofs.Tryd.f12 .none [(.prod .str .str)] .bool 1 .ro = (S12 N).f := by kernel_rfl
theorem s12 (N : Nat) : Sat Go.Proofs.Tryd.prog 12 (S12 N) := sat_eq (ctx_cons tabs (ctx_cons tabs (ctx_nil tabs (by kernel_rfl)) (s20 N)) (s19 N)) Go.Proofs.Tryd.func12 (by kernel_rfl) (by kernel_rfl) (by decide) (by decide) (e12 N)
noncomputable def S14 (N : Nat) : Go.Rx.Spec := ⟨.none, [(.int .i64)], .str, 1, .ro, fun _ x => Px.strconv_Itoa N x.1⟩
theorem s14 (N : Nat) : Sat Go.Proofs.Tryd.prog 14 (S14 N) := sat_itoa gm Go.Proofs.Tryd.func14 (by kernel_rfl) (by kernel_rfl) Go.Proofs.Tryd.strconv_Itoa
noncomputable def S21 (N : Nat) : Go.Rx.Spec := ⟨.none, [.str, .str], .bool, 1, .ro, fun _ x => Px.strings_Contains N x.1 x.2.1⟩
theorem s21 (N : Nat) : Sat Go.Proofs.Tryd.prog 21 (S21 N) := sat_contains gm Go.Proofs.Tryd.func21 (by kernel_rfl) (by kernel_rfl) Go.Proofs.Tryd.strings_Contains
noncomputable def S22 (N : Nat) : Go.Rx.Spec := ⟨.none, [.str], (.int .i64), 1, .ro, fun _ x => Px.impl_checksum N x.1⟩
theorem e22 (N : Nat) : evalFn (ctx tab []) N (.node none .nil (.node none .nil (.node none (.node none .nil (.node (some ⟨21, [(3, .val (.int .i64))], []⟩) (.node (some ⟨21, [(0, .val .str), (3, .val (.int .i64)), (6, .val (.int .i64)), (7, .val (.int .i64))], []⟩) .nil .nil) .nil)) .nil))) Go.Proofs.Tryd.f22 .none [.str] (.int .i64) 1 .ro = (S22 N).f := by kernel_rfl
theorem s22 (N : Nat) : Sat Go.Proofs.Tryd.prog 22 (S22 N) := sat_eq (ctx_nil tabs (by kernel_rfl)) Go.Proofs.Tryd.func22 (by kernel_rfl) (by kernel_rfl) (by decide) (by decide) (e22 N)
noncomputable def S13 (N : Nat) : Go.Rx.Spec := ⟨.none, [.str], (.prod .str .bool), 2, .ro, fun _ x => Px.impl_AppendChecksum N x.1⟩
theorem e13 (N : Nat) : evalFn (ctx tab [(14, S14 N), (21, S21 N), (22, S22 N)]) N .nil Go.Proofs.Tryd.f13 .none [.str] (.prod .str .bool) 2 .ro = (S13 N).f := by kernel_rfl
theorem s13 (N : Nat) : Sat Go.Proofs.Tryd.prog 13 (S13 N) := sat_eq (ctx_cons tabs (ctx_cons tabs (ctx_cons tabs (ctx_nil tabs (by kernel_rfl)) (s22 N)) (s21 N)) (s14 N)) Go.Proofs.Tryd.func13 (by kernel_rfl) (by kernel_rfl) (by decide) (by decide) (e13 N)
noncomputable def S7 (N : Nat) : Go.Rx.Spec := ⟨.none, [(.int .i64), (.prod .str .str)], (.prod .str .bool), 2, .ro, fun _ x => Px.impl_EncodeRecord N x.1 x.2.1⟩
theorem e7 (N : Nat) : evalFn (ctx tab [(11, S11 N), (12, S12 N), (13, S13 N), (14, S14 N)]) N .nil Go.Proofs.Tryd.f7 .none [(.int .i64), (.prod .str .str)] (.prod .str .bool) 2 .ro = (S7 N).f := by kernel_rfl
theorem s7 (N : Nat) : Sat Go.Proofs.Tryd.prog 7 (S7 N) := sat_eq (ctx_cons tabs (ctx_cons tabs (ctx_cons tabs (ctx_cons tabs (ctx_nil tabs (by kernel_rfl)) (s14 N)) (s13 N)) (s12 N)) (s11 N)) Go.Proofs.Tryd.func7 (by kernel_rfl) (by kernel_rfl) (by decide) (by decide) (e7 N)
noncomputable def S3 (N : Nat) : Go.Rx.Spec := ⟨.none, [(.int .i64), (.prod .str .str)], .bool, 1, .ro, fun _ x => Px.laws_FnExactEncodeRecord N x.1 x.2.1⟩
theorem e3 (N : Nat) : evalFn (ctx tab [(4, S4 N), (5, S5 N), (6, S6 N), (7, S7 N)]) N .nil Go.Proofs.Tryd.f3 .none [(.int .i64), (.prod .str .str)] .bool 1 .ro = (S3 N).f := by kernel_rfl
theorem s3 (N : Nat) : Sat Go.Proofs.Tryd.prog 3 (S3 N) := sat_eq (ctx_cons tabs (ctx_cons tabs (ctx_cons tabs (ctx_cons tabs (ctx_nil tabs (by kernel_rfl)) (s7 N)) (s6 N)) (s5 N)) (s4 N)) Go.Proofs.Tryd.func3 (by kernel_rfl) (by kernel_rfl) (by decide) (by decide) (e3 N)
end Go.Proofs.YtkahcjhdjnaecaaDoor.RsFnExactEncodeRecord
