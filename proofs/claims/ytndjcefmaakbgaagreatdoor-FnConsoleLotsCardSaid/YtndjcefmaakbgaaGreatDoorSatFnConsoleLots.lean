/- This text proves that the Go functions behind FnConsoleLots compute the plain functions; no condition. -/
import Derived.Test.YtndjcefmaakbgaaGreatDoorProg
import Derived.Test.YtndjcefmaakbgaaGreatDoorPxFnConsoleLots
import Derived.Test.YtndjcefmaakbgaaGreatDoorLayFnConsoleLots
import Derived.Test.YtndjcefmaakbgaaGreatDoorWlkFnConsoleLots
import Derived.Test.YtndjcefmaakbgaaGreatDoorActFnConsoleLots
set_option linter.unusedVariables false
set_option linter.unusedSimpArgs false
namespace Go.Proofs.YtndjcefmaakbgaaGreatDoor.RsFnConsoleLots
open Go.Rx
open Go.Proofs.YtndjcefmaakbgaaGreatDoor.WkFnConsoleLots
def tab:List (Nat×TI):=[
  (2,⟨(.int .i64),0,8⟩),
  (3,⟨(.int .i64),0,8⟩),
  (4,⟨.bool,0,1⟩),
  (5,⟨(.int .u8),0,1⟩),
  (6,⟨(.int .u8),0,1⟩),
  (7,⟨(.prod (.int .i64) (.prod (.int .i64) (.prod .bool (.int .u8)))),4,24⟩),
  (8,⟨(.prod (.int .i64) (.prod (.int .i64) (.prod .bool (.int .u8)))),4,24⟩),
  (9,⟨.str,0,16⟩),
  (10,⟨.str,0,16⟩),
  (11,⟨.str,0,16⟩),
  (12,⟨(.int .u64),0,8⟩),
  (20,⟨.err,0,16⟩),
  (21,⟨(.int .i32),0,4⟩),
  (22,⟨(.slice 5 (.int .u8)),0,24⟩),
  (24,⟨(.slice 3 (.int .i64)),0,24⟩),
  (25,⟨(.prod (.slice 3 (.int .i64)) (.prod (.slice 3 (.int .i64)) (.prod (.slice 3 (.int .i64)) (.slice 3 (.int .i64))))),4,96⟩),
  (26,⟨(.prod (.slice 3 (.int .i64)) (.prod (.slice 3 (.int .i64)) (.prod (.slice 3 (.int .i64)) (.slice 3 (.int .i64))))),4,96⟩),
  (27,⟨(.prod (.prod (.slice 3 (.int .i64)) (.prod (.slice 3 (.int .i64)) (.prod (.slice 3 (.int .i64)) (.slice 3 (.int .i64))))) (.prod (.slice 3 (.int .i64)) (.int .i64))),3,128⟩),
  (28,⟨(.prod (.prod (.slice 3 (.int .i64)) (.prod (.slice 3 (.int .i64)) (.prod (.slice 3 (.int .i64)) (.slice 3 (.int .i64))))) (.prod (.slice 3 (.int .i64)) (.int .i64))),3,128⟩),
  (30,⟨(.prod .str (.prod .str (.int .i64))),3,40⟩),
  (31,⟨(.prod .str (.prod .str (.int .i64))),3,40⟩),
  (32,⟨(.prod (.prod (.prod (.slice 3 (.int .i64)) (.prod (.slice 3 (.int .i64)) (.prod (.slice 3 (.int .i64)) (.slice 3 (.int .i64))))) (.prod (.slice 3 (.int .i64)) (.int .i64))) (.prod .str (.prod .str (.int .i64)))),2,168⟩),
  (33,⟨(.prod (.prod (.prod (.slice 3 (.int .i64)) (.prod (.slice 3 (.int .i64)) (.prod (.slice 3 (.int .i64)) (.slice 3 (.int .i64))))) (.prod (.slice 3 (.int .i64)) (.int .i64))) (.prod .str (.prod .str (.int .i64)))),2,168⟩),
  (56,⟨(.prod .str .str),2,32⟩),
  (57,⟨(.prod .str .str),2,32⟩),
  (72,⟨(.slice 9 .str),0,24⟩),
  (75,⟨(.int .u64),0,8⟩),
  (76,⟨(.prod (.slice 5 (.int .u8)) (.prod (.int .i64) (.int .u64))),3,40⟩),
  (77,⟨(.prod (.slice 5 (.int .u8)) (.prod (.int .i64) (.int .u64))),3,40⟩),
  (86,⟨(.prod (.int .i64) (.prod (.int .i64) (.prod (.int .i64) (.prod (.int .i64) (.int .i64))))),5,40⟩),
  (87,⟨(.prod (.int .i64) (.prod (.int .i64) (.prod (.int .i64) (.prod (.int .i64) (.int .i64))))),5,40⟩),
  (99,⟨(.slice 24 (.slice 3 (.int .i64))),0,24⟩),
  (108,⟨(.slice 57 (.prod .str .str)),0,24⟩),
  (113,⟨.err,0,16⟩),
  (114,⟨.err,0,16⟩),
  (118,⟨(.arr 7 (.int .i64)),0,56⟩),
  (119,⟨(.arr 4 (.int .i64)),0,32⟩),
  (149,⟨(.int .u64),0,8⟩),
  (157,⟨(.arr 256 .bool),0,256⟩),
  (158,⟨(.arr 256 .bool),0,256⟩),
  (165,⟨(.int .i64),0,8⟩),
  (173,⟨(.int .i64),0,8⟩),
  (180,⟨(.int .u32),0,4⟩),
  (182,⟨(.arr 24 (.int .u8)),0,24⟩),
  (199,⟨(.prod .str (.prod .str .err)),3,48⟩),
  (200,⟨(.prod .str (.prod .str .err)),3,48⟩),
  (202,⟨(.int .u64),0,8⟩),
  (209,⟨(.arr 20 (.int .u64)),0,160⟩),
  (210,⟨(.arr 65 (.int .u8)),0,65⟩),
  (213,⟨(.arr 3 (.int .i64)),0,24⟩),
  (215,⟨(.arr 256 (.int .u8)),0,256⟩),
  (216,⟨(.prod (.int .u8) (.int .u8)),2,2⟩),
  (217,⟨(.prod (.int .u8) (.int .u8)),2,2⟩),
  (218,⟨(.arr 16 (.prod (.int .u8) (.int .u8))),0,32⟩),
  (226,⟨(.arr 32 (.int .u8)),0,32⟩),
  (227,⟨(.arr 64 (.int .u8)),0,64⟩),
  (233,⟨(.int .u8),0,1⟩),
  (234,⟨(.int .u8),0,1⟩),
  (236,⟨(.int .i32),0,4⟩),
  (237,⟨(.int .i32),0,4⟩)]
abbrev ge:Nat:=1
abbrev gm:Nat:=0
instance laidI:Laid Go.Proofs.Tryz.prog:=doorLaid Go.Proofs.Tryz.prog gm
abbrev y0:Go.Rx.Ty:= .prod (.slice 3 (.int .i64)) (.prod (.slice 3 (.int .i64)) (.prod (.slice 3 (.int .i64)) (.slice 3 (.int .i64))))
abbrev y1:Go.Rx.Ty:= .int .i64
abbrev y2:Go.Rx.Ty:= .prod y0 (.prod (.slice 3 y1) y1)
abbrev y3:Go.Rx.Perm:= .pr (.own .ro) (.pr (.own .ro) (.pr (.own .ro) (.own .ro)))
abbrev y4:Go.Rx.Ty:= .slice 3 y1
abbrev y5:Go.Rx.Ty:= .prod (.slice 5 (.int .u8)) (.prod y1 (.int .u64))
abbrev y6:Go.Rx.Ty:= .prod y1 (.prod y1 (.prod y1 (.prod y1 y1)))
abbrev y7:Go.Rx.Perm:= .pr (.own .ro) .ro
abbrev y8:Go.Rx.Ty:= .prod .str (.prod .str y1)
abbrev y9:Go.Rx.Ty:= .prod .str .bool
abbrev y10:Go.Rx.Perm:= .pr y3 y7
abbrev y11:Go.Rx.Ty:= .prod y4 .bool
abbrev y12:Go.Rx.Ty:= .slice 9 .str
abbrev y13:Go.Rx.Ty:= .prod y1 .bool
abbrev y14:Go.Rx.Ty:= .slice 5 (.int .u8)
abbrev y15:Go.Rx.Ty:= .prod .str .str
abbrev y16:Go.Rx.Ty:= .slice 24 y4
theorem tabs:∀l,TabOk Go.Proofs.Tryz.prog (ctx tab l):=tab_all (by kernel_rfl)
noncomputable def S4 (N:Nat):Go.Rx.Spec:=⟨.none,[y14], .bool,1, .ro,fun _ x=>Px.Q69 N x.1⟩
theorem e4 (N:Nat):evalFn (ctx tab []) N .nil Go.Proofs.Tryz.f4 .none [y14] .bool 1 .ro=(S4 N).f:=by kernel_rfl
theorem s4 (N:Nat):Sat Go.Proofs.Tryz.prog 4 (S4 N):=sat_eq (ctx_nil tabs (by kernel_rfl)) Go.Proofs.Tryz.func4 (by kernel_rfl) (by kernel_rfl) (by decide) (by decide) (e4 N)
noncomputable def S47 (N:Nat):Go.Rx.Spec:=⟨.none,[y1,y1,y1], .bool,1, .ro,fun _ x=>Px.Q97 N x.1 x.2.1 x.2.2.1⟩
theorem e47 (N:Nat):evalFn (ctx tab []) N .nil Go.Proofs.Tryz.f47 .none [y1,y1,y1] .bool 1 .ro=(S47 N).f:=by kernel_rfl
theorem s47 (N:Nat):Sat Go.Proofs.Tryz.prog 47 (S47 N):=sat_eq (ctx_nil tabs (by kernel_rfl)) Go.Proofs.Tryz.func47 (by kernel_rfl) (by kernel_rfl) (by decide) (by decide) (e47 N)
noncomputable def S46 (N:Nat):Go.Rx.Spec:=⟨.none,[y4,y1,y1], .bool,1, .ro,fun _ x=>Px.Q109 N x.1 x.2.1 x.2.2.1⟩
theorem e46 (N:Nat):evalFn (ctx tab [(47,S47 N)]) N (.node none .nil (.node none (.node none .nil (.node (some ⟨25,[(0, .val y4),(1, .val y1)],[]⟩) (.node (some ⟨25,[(0, .val y4),(1, .val y1),(2, .val y1),(7, .val y1)],[]⟩) .nil .nil) .nil)) .nil)) Go.Proofs.Tryz.f46 .none [y4,y1,y1] .bool 1 .ro=(S46 N).f:=by kernel_rfl
theorem s46 (N:Nat):Sat Go.Proofs.Tryz.prog 46 (S46 N):=sat_eq (ctx_cons tabs (ctx_nil tabs (by kernel_rfl)) (s47 N)) Go.Proofs.Tryz.func46 (by kernel_rfl) (by kernel_rfl) (by decide) (by decide) (e46 N)
noncomputable def S45 (N:Nat):Go.Rx.Spec:=⟨.none,[y0], .bool,1, .ro,fun _ x=>Px.Q107 N x.1⟩
theorem e45 (N:Nat):evalFn (ctx tab [(46,S46 N)]) N .nil Go.Proofs.Tryz.f45 .none [y0] .bool 1 .ro=(S45 N).f:=by kernel_rfl
theorem s45 (N:Nat):Sat Go.Proofs.Tryz.prog 45 (S45 N):=sat_eq (ctx_cons tabs (ctx_nil tabs (by kernel_rfl)) (s46 N)) Go.Proofs.Tryz.func45 (by kernel_rfl) (by kernel_rfl) (by decide) (by decide) (e45 N)
noncomputable def S48 (N:Nat):Go.Rx.Spec:=⟨.none,[y2,y1],y1,1, .ro,fun _ x=>Px.Q96 N x.1 x.2.1⟩
theorem e48 (N:Nat):evalFn (ctx tab []) N (.node none .nil (.node none .nil (.node none (.node none .nil (.node (some ⟨27,[(5, .val y1)],[]⟩) (.node (some ⟨27,[(1, .val y1),(2, .ptr 2 []),(5, .val y1),(6, .val y1)],[⟨2,true,false, .ro,y2⟩]⟩) .nil .nil) .nil)) .nil))) Go.Proofs.Tryz.f48 .none [y2,y1] y1 1 .ro=(S48 N).f:=by kernel_rfl
theorem s48 (N:Nat):Sat Go.Proofs.Tryz.prog 48 (S48 N):=sat_eq (ctx_nil tabs (by kernel_rfl)) Go.Proofs.Tryz.func48 (by kernel_rfl) (by kernel_rfl) (by decide) (by decide) (e48 N)
noncomputable def S20 (N:Nat):Go.Rx.Spec:=⟨.none,[y2], .bool,1, .ro,fun _ x=>Px.Q90 N x.1⟩
theorem e20 (N:Nat):evalFn (ctx tab [(45,S45 N),(46,S46 N),(47,S47 N),(48,S48 N)]) N (.node none .nil (.node none .nil (.node none .nil (.node none (.node none .nil (.node (some ⟨37,[],[]⟩) (.node (some ⟨37,[(1, .ptr 1 []),(4, .val y1)],[⟨1,true,false, .ro,y2⟩]⟩) .nil .nil) .nil)) .nil)))) Go.Proofs.Tryz.f20 .none [y2] .bool 1 .ro=(S20 N).f:=by kernel_rfl
theorem s20 (N:Nat):Sat Go.Proofs.Tryz.prog 20 (S20 N):=sat_eq (ctx_cons tabs (ctx_cons tabs (ctx_cons tabs (ctx_cons tabs (ctx_nil tabs (by kernel_rfl)) (s48 N)) (s47 N)) (s46 N)) (s45 N)) Go.Proofs.Tryz.func20 (by kernel_rfl) (by kernel_rfl) (by decide) (by decide) (e20 N)
noncomputable def S103 (N:Nat):Go.Rx.Spec:=⟨(.ptr y5 .ro .ro),[],y1,1, .ro,fun g x=>Px.Q77 N g⟩
theorem e103 (N:Nat):evalFn (ctx tab []) N (.node none .nil (.node none .nil (.node none (.node none .nil (.node (some ⟨62,[(0, .ptr 0 []),(3, .val y1)],[⟨0,true,false, .ro,y5⟩]⟩) .nil .nil)) .nil))) Go.Proofs.Tryz.f103 (.ptr y5 .ro .ro) [] y1 1 .ro=(S103 N).f:=by kernel_rfl
theorem s103 (N:Nat):Sat Go.Proofs.Tryz.prog 103 (S103 N):=sat_eq (ctx_nil tabs (by kernel_rfl)) Go.Proofs.Tryz.func103 (by kernel_rfl) (by kernel_rfl) (by decide) (by decide) (e103 N)
noncomputable def S71 (N:Nat):Go.Rx.Spec:=⟨(.ptr y5 .ro .ro),[y1],y1,1, .ro,fun g x=>Px.Q79 N g x.1⟩
theorem e71 (N:Nat):evalFn (ctx tab [(103,S103 N)]) N .nil Go.Proofs.Tryz.f71 (.ptr y5 .ro .ro) [y1] y1 1 .ro=(S71 N).f:=by kernel_rfl
theorem s71 (N:Nat):Sat Go.Proofs.Tryz.prog 71 (S71 N):=sat_eq (ctx_cons tabs (ctx_nil tabs (by kernel_rfl)) (s103 N)) Go.Proofs.Tryz.func71 (by kernel_rfl) (by kernel_rfl) (by decide) (by decide) (e71 N)
noncomputable def S74 (N:Nat):Go.Rx.Spec:=⟨(.ptr y5 .ro .ro),[y4],y1,1, .ro,fun g x=>Px.Q74 N g x.1⟩
theorem e74 (N:Nat):evalFn (ctx tab [(71,S71 N)]) N .nil Go.Proofs.Tryz.f74 (.ptr y5 .ro .ro) [y4] y1 1 .ro=(S74 N).f:=by kernel_rfl
theorem s74 (N:Nat):Sat Go.Proofs.Tryz.prog 74 (S74 N):=sat_eq (ctx_cons tabs (ctx_nil tabs (by kernel_rfl)) (s71 N)) Go.Proofs.Tryz.func74 (by kernel_rfl) (by kernel_rfl) (by decide) (by decide) (e74 N)
noncomputable def S101 (N:Nat):Go.Rx.Spec:=⟨.none,[y1,y1],y1,1, .ro,fun _ x=>Px.Q98 N x.1 x.2.1⟩
theorem e101 (N:Nat):evalFn (ctx tab []) N .nil Go.Proofs.Tryz.f101 .none [y1,y1] y1 1 .ro=(S101 N).f:=by kernel_rfl
theorem s101 (N:Nat):Sat Go.Proofs.Tryz.prog 101 (S101 N):=sat_eq (ctx_nil tabs (by kernel_rfl)) Go.Proofs.Tryz.func101 (by kernel_rfl) (by kernel_rfl) (by decide) (by decide) (e101 N)
noncomputable def S102 (N:Nat):Go.Rx.Spec:=⟨(.ptr y5 .ro .ro),[y1], .bool,1, .ro,fun g x=>Px.Q78 N g x.1⟩
theorem e102 (N:Nat):evalFn (ctx tab [(71,S71 N)]) N .nil Go.Proofs.Tryz.f102 (.ptr y5 .ro .ro) [y1] .bool 1 .ro=(S102 N).f:=by kernel_rfl
theorem s102 (N:Nat):Sat Go.Proofs.Tryz.prog 102 (S102 N):=sat_eq (ctx_cons tabs (ctx_nil tabs (by kernel_rfl)) (s71 N)) Go.Proofs.Tryz.func102 (by kernel_rfl) (by kernel_rfl) (by decide) (by decide) (e102 N)
noncomputable def S69 (N:Nat):Go.Rx.Spec:=⟨(.ptr y5 .ro .ro),[y1],y0,1,y3,fun g x=>Px.Q80 N g x.1⟩
theorem e69 (N:Nat):evalFn (ctx tab [(71,S71 N),(74,S74 N),(101,S101 N),(102,S102 N)]) N (.node none .nil (.node none .nil (.node none .nil (.node none .nil (.node none (.node none .nil (.node (some ⟨146,[(0, .ptr 0 []),(4, .ptr 4 []),(5, .val y1),(6, .ptr 6 [])],[⟨0,true,false, .ro,y5⟩,⟨4,true,false,y3,y0⟩,⟨6,true,false,y3,y0⟩]⟩) (.node (some ⟨146,[(0, .ptr 0 []),(4, .ptr 4 []),(5, .val y1),(6, .ptr 6 []),(7, .val .bool),(8, .val y1),(9, .val y1),(10, .val y1),(11, .val y1)],[⟨0,true,false, .ro,y5⟩,⟨4,true,false,y3,y0⟩,⟨6,true,false,y3,y0⟩]⟩) (.node none .nil (.node none (.node none (.node none (.node none .nil (.node (some ⟨146,[(0, .ptr 0 []),(4, .ptr 4 []),(5, .val y1),(6, .ptr 6 []),(7, .val .bool),(8, .val y1),(9, .val y1),(10, .val y1),(11, .val y1)],[⟨0,true,false, .ro,y5⟩,⟨4,true,false,y3,y0⟩,⟨6,true,false,y3,y0⟩]⟩) .nil .nil)) .nil) .nil) .nil)) .nil) .nil)) (.node none (.node none .nil (.node none (.node none .nil (.node none .nil (.node none (.node none .nil (.node none .nil (.node none .nil (.node none .nil (.node none .nil (.node none .nil (.node none .nil (.node none .nil (.node none .nil (.node none .nil (.node none .nil (.node none (.node (some ⟨146,[(0, .ptr 0 []),(4, .ptr 4 []),(6, .ptr 6 [])],[⟨0,true,false, .ro,y5⟩,⟨4,true,false,y3,y0⟩,⟨6,true,false,y3,y0⟩]⟩) (.node (some ⟨146,[(0, .ptr 0 []),(4, .ptr 4 []),(6, .ptr 6 [])],[⟨0,true,false, .ro,y5⟩,⟨4,true,false,y3,y0⟩,⟨6,true,false,y3,y0⟩]⟩) .nil .nil) .nil) .nil)))))))))))) .nil))) .nil)) .nil)))))) Go.Proofs.Tryz.f69 (.ptr y5 .ro .ro) [y1] y0 1 y3=(S69 N).f:=by kernel_rfl
theorem s69 (N:Nat):Sat Go.Proofs.Tryz.prog 69 (S69 N):=sat_eq (ctx_cons tabs (ctx_cons tabs (ctx_cons tabs (ctx_cons tabs (ctx_nil tabs (by kernel_rfl)) (s102 N)) (s101 N)) (s74 N)) (s71 N)) Go.Proofs.Tryz.func69 (by kernel_rfl) (by kernel_rfl) (by decide) (by decide) (e69 N)
noncomputable def S70 (N:Nat):Go.Rx.Spec:=⟨(.ptr y5 .ro .ro),[y0],y4,1,(.own .ro),fun g x=>Px.Q75 N g x.1⟩
theorem e70 (N:Nat):evalFn (ctx tab [(45,S45 N),(71,S71 N),(74,S74 N),(102,S102 N)]) N (.node none .nil (.node none .nil (.node none .nil (.node none (.node none .nil (.node (some ⟨90,[(0, .ptr 0 []),(5, .vw 14 [])],[⟨0,true,false, .ro,y5⟩,⟨14,false,false,(.own .ro),y4⟩]⟩) (.node (some ⟨90,[(0, .ptr 0 []),(3, .ptr 3 []),(5, .vw 14 []),(6, .val y1)],[⟨0,true,false, .ro,y5⟩,⟨3,true,false, .ro,y0⟩,⟨14,false,false,(.own .ro),y4⟩]⟩) (.node none .nil (.node none (.node none (.node none .nil (.node (some ⟨90,[(0, .ptr 0 []),(3, .ptr 3 []),(5, .vw 14 []),(6, .val y1)],[⟨0,true,false, .ro,y5⟩,⟨3,true,false, .ro,y0⟩,⟨14,false,false,(.own .ro),y4⟩]⟩) (.node (some ⟨90,[(0, .ptr 0 []),(3, .ptr 3 []),(5, .vw 14 []),(6, .val y1),(7, .val y1)],[⟨0,true,false, .ro,y5⟩,⟨3,true,false, .ro,y0⟩,⟨14,false,false,(.own .ro),y4⟩]⟩) (.node none .nil (.node none (.node none .nil (.node none (.node none .nil (.node (some ⟨90,[(0, .ptr 0 []),(3, .ptr 3 []),(5, .vw 14 []),(6, .val y1),(7, .val y1),(8, .val y1)],[⟨0,true,false, .ro,y5⟩,⟨3,true,false, .ro,y0⟩,⟨14,false,false,(.own .ro),y4⟩]⟩) .nil .nil)) .nil)) .nil)) .nil) .nil)) .nil) .nil)) .nil) .nil)) .nil)))) Go.Proofs.Tryz.f70 (.ptr y5 .ro .ro) [y0] y4 1 (.own .ro)=(S70 N).f:=by kernel_rfl
theorem s70 (N:Nat):Sat Go.Proofs.Tryz.prog 70 (S70 N):=sat_eq (ctx_cons tabs (ctx_cons tabs (ctx_cons tabs (ctx_cons tabs (ctx_nil tabs (by kernel_rfl)) (s102 N)) (s74 N)) (s71 N)) (s45 N)) Go.Proofs.Tryz.func70 (by kernel_rfl) (by kernel_rfl) (by decide) (by decide) (e70 N)
noncomputable def S104 (N:Nat):Go.Rx.Spec:=⟨.none,[y6], .bool,1, .ro,fun _ x=>Px.Q95 N x.1⟩
theorem e104 (N:Nat):evalFn (ctx tab [(47,S47 N)]) N (.node none .nil (.node none (.node none .nil (.node (some ⟨41,[(1, .ptr 1 [])],[⟨1,true,false, .ro,y6⟩]⟩) .nil .nil)) .nil)) Go.Proofs.Tryz.f104 .none [y6] .bool 1 .ro=(S104 N).f:=by kernel_rfl
theorem s104 (N:Nat):Sat Go.Proofs.Tryz.prog 104 (S104 N):=sat_eq (ctx_cons tabs (ctx_nil tabs (by kernel_rfl)) (s47 N)) Go.Proofs.Tryz.func104 (by kernel_rfl) (by kernel_rfl) (by decide) (by decide) (e104 N)
noncomputable def S128 (N:Nat):Go.Rx.Spec:=⟨.none,[y2,y1], .bool,1, .ro,fun _ x=>Px.Q88 N x.1 x.2.1⟩
theorem e128 (N:Nat):evalFn (ctx tab [(47,S47 N)]) N .nil Go.Proofs.Tryz.f128 .none [y2,y1] .bool 1 .ro=(S128 N).f:=by kernel_rfl
theorem s128 (N:Nat):Sat Go.Proofs.Tryz.prog 128 (S128 N):=sat_eq (ctx_cons tabs (ctx_nil tabs (by kernel_rfl)) (s47 N)) Go.Proofs.Tryz.func128 (by kernel_rfl) (by kernel_rfl) (by decide) (by decide) (e128 N)
noncomputable def S105 (N:Nat):Go.Rx.Spec:=⟨.none,[y2,y6], .bool,1, .ro,fun _ x=>Px.Q93 N x.1 x.2.1⟩
theorem e105 (N:Nat):evalFn (ctx tab [(128,S128 N)]) N .nil Go.Proofs.Tryz.f105 .none [y2,y6] .bool 1 .ro=(S105 N).f:=by kernel_rfl
theorem s105 (N:Nat):Sat Go.Proofs.Tryz.prog 105 (S105 N):=sat_eq (ctx_cons tabs (ctx_nil tabs (by kernel_rfl)) (s128 N)) Go.Proofs.Tryz.func105 (by kernel_rfl) (by kernel_rfl) (by decide) (by decide) (e105 N)
noncomputable def S131 (N:Nat):Go.Rx.Spec:=⟨.none,[y4],y4,1,(.own .ro),fun _ x=>Px.Q100 N x.1⟩
theorem e131 (N:Nat):evalFn (ctx tab []) N .nil Go.Proofs.Tryz.f131 .none [y4] y4 1 (.own .ro)=(S131 N).f:=by kernel_rfl
theorem s131 (N:Nat):Sat Go.Proofs.Tryz.prog 131 (S131 N):=sat_eq (ctx_nil tabs (by kernel_rfl)) Go.Proofs.Tryz.func131 (by kernel_rfl) (by kernel_rfl) (by decide) (by decide) (e131 N)
noncomputable def S129 (N:Nat):Go.Rx.Spec:=⟨.none,[y2],y2,1,y10,fun _ x=>Px.Q94 N x.1⟩
theorem e129 (N:Nat):evalFn (ctx tab [(131,S131 N)]) N .nil Go.Proofs.Tryz.f129 .none [y2] y2 1 y10=(S129 N).f:=by kernel_rfl
theorem s129 (N:Nat):Sat Go.Proofs.Tryz.prog 129 (S129 N):=sat_eq (ctx_cons tabs (ctx_nil tabs (by kernel_rfl)) (s131 N)) Go.Proofs.Tryz.func129 (by kernel_rfl) (by kernel_rfl) (by decide) (by decide) (e129 N)
noncomputable def S168 (N:Nat):Go.Rx.Spec:=⟨.none,[y2],y4,1,(.own .ro),fun _ x=>Px.Q91 N x.1⟩
theorem e168 (N:Nat):evalFn (ctx tab [(48,S48 N),(101,S101 N)]) N (.node none .nil (.node none .nil (.node none .nil (.node none (.node none .nil (.node (some ⟨44,[(3, .vw 7 [])],[⟨7,false,false,(.own .ro),y4⟩]⟩) (.node (some ⟨44,[(1, .ptr 1 []),(3, .vw 7 []),(4, .val y1),(5, .val y1)],[⟨1,true,false, .ro,y2⟩,⟨7,false,false,(.own .ro),y4⟩]⟩) .nil .nil) .nil)) .nil)))) Go.Proofs.Tryz.f168 .none [y2] y4 1 (.own .ro)=(S168 N).f:=by kernel_rfl
theorem s168 (N:Nat):Sat Go.Proofs.Tryz.prog 168 (S168 N):=sat_eq (ctx_cons tabs (ctx_cons tabs (ctx_nil tabs (by kernel_rfl)) (s101 N)) (s48 N)) Go.Proofs.Tryz.func168 (by kernel_rfl) (by kernel_rfl) (by decide) (by decide) (e168 N)
noncomputable def S130 (N:Nat):Go.Rx.Spec:=⟨.none,[y2],y0,1,y3,fun _ x=>Px.Q87 N x.1⟩
theorem e130 (N:Nat):evalFn (ctx tab [(131,S131 N),(168,S168 N)]) N .nil Go.Proofs.Tryz.f130 .none [y2] y0 1 y3=(S130 N).f:=by kernel_rfl
theorem s130 (N:Nat):Sat Go.Proofs.Tryz.prog 130 (S130 N):=sat_eq (ctx_cons tabs (ctx_cons tabs (ctx_nil tabs (by kernel_rfl)) (s168 N)) (s131 N)) Go.Proofs.Tryz.func130 (by kernel_rfl) (by kernel_rfl) (by decide) (by decide) (e130 N)
noncomputable def S169 (N:Nat):Go.Rx.Spec:=⟨.none,[y4],y1,1, .ro,fun _ x=>Px.Q111 N x.1⟩
theorem e169 (N:Nat):evalFn (ctx tab []) N (.node none .nil (.node none .nil (.node none (.node none .nil (.node (some ⟨18,[(3, .val y1)],[]⟩) (.node (some ⟨18,[(0, .val y4),(3, .val y1),(4, .val y1)],[]⟩) .nil .nil) .nil)) .nil))) Go.Proofs.Tryz.f169 .none [y4] y1 1 .ro=(S169 N).f:=by kernel_rfl
theorem s169 (N:Nat):Sat Go.Proofs.Tryz.prog 169 (S169 N):=sat_eq (ctx_nil tabs (by kernel_rfl)) Go.Proofs.Tryz.func169 (by kernel_rfl) (by kernel_rfl) (by decide) (by decide) (e169 N)
noncomputable def S132 (N:Nat):Go.Rx.Spec:=⟨.none,[y0,y4],y4,1,(.own .ro),fun _ x=>Px.Q106 N x.1 x.2.1⟩
theorem e132 (N:Nat):evalFn (ctx tab [(169,S169 N)]) N (.node none .nil (.node none .nil (.node none (.node none .nil (.node (some ⟨47,[(5, .vw 11 [])],[⟨11,false,false,(.own .ro),y4⟩]⟩) (.node (some ⟨47,[(1, .val y4),(2, .ptr 2 []),(5, .vw 11 []),(6, .val y1)],[⟨2,true,false, .ro,y0⟩,⟨11,false,false,(.own .ro),y4⟩]⟩) (.node none .nil (.node none (.node none (.node none .nil (.node none (.node none .nil (.node (some ⟨47,[(1, .val y4),(2, .ptr 2 []),(5, .vw 11 []),(6, .val y1),(7, .val y1)],[⟨2,true,false, .ro,y0⟩,⟨11,false,false,(.own .ro),y4⟩]⟩) .nil .nil)) .nil)) .nil) .nil)) .nil) .nil)) .nil))) Go.Proofs.Tryz.f132 .none [y0,y4] y4 1 (.own .ro)=(S132 N).f:=by kernel_rfl
theorem s132 (N:Nat):Sat Go.Proofs.Tryz.prog 132 (S132 N):=sat_eq (ctx_cons tabs (ctx_nil tabs (by kernel_rfl)) (s169 N)) Go.Proofs.Tryz.func132 (by kernel_rfl) (by kernel_rfl) (by decide) (by decide) (e132 N)
noncomputable def S170 (N:Nat):Go.Rx.Spec:=⟨.none,[y1,y1],y4,1,(.own .ro),fun _ x=>Px.Q103 N x.1 x.2.1⟩
theorem e170 (N:Nat):evalFn (ctx tab []) N (.node none .nil (.node none .nil (.node none (.node none .nil (.node (some ⟨23,[(5, .vw 7 [])],[⟨7,false,false,(.own .ro),y4⟩]⟩) (.node (some ⟨23,[(0, .val y1),(1, .val y1),(5, .vw 7 []),(6, .val y1)],[⟨7,false,false,(.own .ro),y4⟩]⟩) .nil .nil) .nil)) .nil))) Go.Proofs.Tryz.f170 .none [y1,y1] y4 1 (.own .ro)=(S170 N).f:=by kernel_rfl
theorem s170 (N:Nat):Sat Go.Proofs.Tryz.prog 170 (S170 N):=sat_eq (ctx_nil tabs (by kernel_rfl)) Go.Proofs.Tryz.func170 (by kernel_rfl) (by kernel_rfl) (by decide) (by decide) (e170 N)
noncomputable def S171 (N:Nat):Go.Rx.Spec:=⟨.none,[y0,y4], .bool,1, .ro,fun _ x=>Px.Q105 N x.1 x.2.1⟩
theorem e171 (N:Nat):evalFn (ctx tab []) N (.node none .nil (.node none (.node none .nil (.node (some ⟨29,[],[]⟩) (.node (some ⟨29,[(1, .val y4),(2, .ptr 2 []),(5, .val y1)],[⟨2,true,false, .ro,y0⟩]⟩) .nil .nil) .nil)) .nil)) Go.Proofs.Tryz.f171 .none [y0,y4] .bool 1 .ro=(S171 N).f:=by kernel_rfl
theorem s171 (N:Nat):Sat Go.Proofs.Tryz.prog 171 (S171 N):=sat_eq (ctx_nil tabs (by kernel_rfl)) Go.Proofs.Tryz.func171 (by kernel_rfl) (by kernel_rfl) (by decide) (by decide) (e171 N)
noncomputable def S197 (N:Nat):Go.Rx.Spec:=⟨.none,[y0,y4],y4,1,(.own .ro),fun _ x=>Px.Q110 N x.1 x.2.1⟩
theorem e197 (N:Nat):evalFn (ctx tab []) N (.node none .nil (.node none .nil (.node none (.node none .nil (.node (some ⟨32,[(5, .vw 8 [])],[⟨8,false,false,(.own .ro),y4⟩]⟩) (.node (some ⟨32,[(1, .val y4),(2, .ptr 2 []),(5, .vw 8 []),(6, .val y1),(7, .val y1)],[⟨2,true,false, .ro,y0⟩,⟨8,false,false,(.own .ro),y4⟩]⟩) .nil .nil) .nil)) .nil))) Go.Proofs.Tryz.f197 .none [y0,y4] y4 1 (.own .ro)=(S197 N).f:=by kernel_rfl
theorem s197 (N:Nat):Sat Go.Proofs.Tryz.prog 197 (S197 N):=sat_eq (ctx_nil tabs (by kernel_rfl)) Go.Proofs.Tryz.func197 (by kernel_rfl) (by kernel_rfl) (by decide) (by decide) (e197 N)
noncomputable def S191 (N:Nat):Go.Rx.Spec:=⟨.none,[y0,y4],(.arr 3 y1),1, .ro,fun _ x=>Px.Q108 N x.1 x.2.1⟩
theorem e191 (N:Nat):evalFn (ctx tab [(197,S197 N)]) N (.node none .nil (.node none .nil (.node none (.node none .nil (.node (some ⟨61,[(4, .ptr 4 []),(5, .ptr 5 [])],[⟨4,true,false, .ro,(.arr 3 y1)⟩,⟨5,true,false, .ro,(.arr 3 y1)⟩]⟩) (.node (some ⟨61,[(1, .val y4),(2, .ptr 2 []),(4, .ptr 4 []),(5, .ptr 5 []),(6, .vw 11 []),(7, .val y1)],[⟨2,true,false, .ro,y0⟩,⟨4,true,false, .ro,(.arr 3 y1)⟩,⟨5,true,false, .ro,(.arr 3 y1)⟩,⟨11,false,false,(.own .ro),y4⟩]⟩) (.node none .nil (.node none (.node none (.node none (.node none .nil (.node (some ⟨61,[(1, .val y4),(2, .ptr 2 []),(4, .ptr 4 []),(5, .ptr 5 []),(6, .vw 11 []),(7, .val y1)],[⟨2,true,false, .ro,y0⟩,⟨4,true,false, .ro,(.arr 3 y1)⟩,⟨5,true,false, .ro,(.arr 3 y1)⟩,⟨11,false,false,(.own .ro),y4⟩]⟩) .nil .nil)) .nil) .nil) .nil)) .nil) .nil)) .nil))) Go.Proofs.Tryz.f191 .none [y0,y4] (.arr 3 y1) 1 .ro=(S191 N).f:=by kernel_rfl
theorem s191 (N:Nat):Sat Go.Proofs.Tryz.prog 191 (S191 N):=sat_eq (ctx_cons tabs (ctx_nil tabs (by kernel_rfl)) (s197 N)) Go.Proofs.Tryz.func191 (by kernel_rfl) (by kernel_rfl) (by decide) (by decide) (e191 N)
noncomputable def S172 (N:Nat):Go.Rx.Spec:=⟨.none,[y0,y4],y1,1, .ro,fun _ x=>Px.Q104 N x.1 x.2.1⟩
theorem e172 (N:Nat):evalFn (ctx tab [(191,S191 N)]) N .nil Go.Proofs.Tryz.f172 .none [y0,y4] y1 1 .ro=(S172 N).f:=by kernel_rfl
theorem s172 (N:Nat):Sat Go.Proofs.Tryz.prog 172 (S172 N):=sat_eq (ctx_cons tabs (ctx_nil tabs (by kernel_rfl)) (s191 N)) Go.Proofs.Tryz.func172 (by kernel_rfl) (by kernel_rfl) (by decide) (by decide) (e172 N)
noncomputable def S173 (N:Nat):Go.Rx.Spec:=⟨.none,[y4,y4], .bool,1, .ro,fun _ x=>Px.Q101 N x.1 x.2.1⟩
theorem e173 (N:Nat):evalFn (ctx tab []) N (.node none .nil (.node none .nil (.node none (.node none .nil (.node (some ⟨40,[],[]⟩) (.node (some ⟨40,[(0, .val y4),(1, .val y4),(5, .val y1)],[]⟩) .nil .nil) .nil)) .nil))) Go.Proofs.Tryz.f173 .none [y4,y4] .bool 1 .ro=(S173 N).f:=by kernel_rfl
theorem s173 (N:Nat):Sat Go.Proofs.Tryz.prog 173 (S173 N):=sat_eq (ctx_nil tabs (by kernel_rfl)) Go.Proofs.Tryz.func173 (by kernel_rfl) (by kernel_rfl) (by decide) (by decide) (e173 N)
noncomputable def S133 (N:Nat):Go.Rx.Spec:=⟨.none,[y0],y4,1,(.own .ro),fun _ x=>Px.Q102 N x.1⟩
theorem e133 (N:Nat):evalFn (ctx tab [(132,S132 N),(170,S170 N),(171,S171 N),(172,S172 N),(173,S173 N)]) N (.node none .nil (.node none .nil (.node none (.node none .nil (.node (some ⟨51,[(3, .vw 8 [])],[⟨8,false,false,(.own .ro),y4⟩]⟩) (.node (some ⟨51,[(1, .ptr 1 []),(3, .vw 8 []),(4, .val y1),(5, .val y1)],[⟨1,true,false, .ro,y0⟩,⟨8,false,false,(.own .ro),y4⟩]⟩) .nil .nil) .nil)) .nil))) Go.Proofs.Tryz.f133 .none [y0] y4 1 (.own .ro)=(S133 N).f:=by kernel_rfl
theorem s133 (N:Nat):Sat Go.Proofs.Tryz.prog 133 (S133 N):=sat_eq (ctx_cons tabs (ctx_cons tabs (ctx_cons tabs (ctx_cons tabs (ctx_cons tabs (ctx_nil tabs (by kernel_rfl)) (s173 N)) (s172 N)) (s171 N)) (s170 N)) (s132 N)) Go.Proofs.Tryz.func133 (by kernel_rfl) (by kernel_rfl) (by decide) (by decide) (e133 N)
noncomputable def S106 (N:Nat):Go.Rx.Spec:=⟨.none,[y2,y6],y2,1,y10,fun _ x=>Px.Q92 N x.1 x.2.1⟩
theorem e106 (N:Nat):evalFn (ctx tab [(129,S129 N),(130,S130 N),(131,S131 N),(132,S132 N),(133,S133 N)]) N .nil Go.Proofs.Tryz.f106 .none [y2,y6] y2 1 y10=(S106 N).f:=by kernel_rfl
theorem s106 (N:Nat):Sat Go.Proofs.Tryz.prog 106 (S106 N):=sat_eq (ctx_cons tabs (ctx_cons tabs (ctx_cons tabs (ctx_cons tabs (ctx_cons tabs (ctx_nil tabs (by kernel_rfl)) (s133 N)) (s132 N)) (s131 N)) (s130 N)) (s129 N)) Go.Proofs.Tryz.func106 (by kernel_rfl) (by kernel_rfl) (by decide) (by decide) (e106 N)
noncomputable def S72 (N:Nat):Go.Rx.Spec:=⟨.none,[y2,y6],(.prod y2 .bool),2,(.pr y10 .ro),fun _ x=>Px.Q89 N x.1 x.2.1⟩
theorem e72 (N:Nat):evalFn (ctx tab [(20,S20 N),(104,S104 N),(105,S105 N),(106,S106 N)]) N .nil Go.Proofs.Tryz.f72 .none [y2,y6] (.prod y2 .bool) 2 (.pr y10 .ro)=(S72 N).f:=by kernel_rfl
theorem s72 (N:Nat):Sat Go.Proofs.Tryz.prog 72 (S72 N):=sat_eq (ctx_cons tabs (ctx_cons tabs (ctx_cons tabs (ctx_cons tabs (ctx_nil tabs (by kernel_rfl)) (s106 N)) (s105 N)) (s104 N)) (s20 N)) Go.Proofs.Tryz.func72 (by kernel_rfl) (by kernel_rfl) (by decide) (by decide) (e72 N)
noncomputable def S107 (N:Nat):Go.Rx.Spec:=⟨.none,[y1,y1],y1,1, .ro,fun _ x=>Px.Q99 N x.1 x.2.1⟩
theorem e107 (N:Nat):evalFn (ctx tab []) N .nil Go.Proofs.Tryz.f107 .none [y1,y1] y1 1 .ro=(S107 N).f:=by kernel_rfl
theorem s107 (N:Nat):Sat Go.Proofs.Tryz.prog 107 (S107 N):=sat_eq (ctx_nil tabs (by kernel_rfl)) Go.Proofs.Tryz.func107 (by kernel_rfl) (by kernel_rfl) (by decide) (by decide) (e107 N)
noncomputable def S73 (N:Nat):Go.Rx.Spec:=⟨(.ptr y5 .ro .ro),[y2],y6,1, .ro,fun g x=>Px.Q73 N g x.1⟩
theorem e73 (N:Nat):evalFn (ctx tab [(71,S71 N),(74,S74 N),(101,S101 N),(107,S107 N)]) N (.node none .nil (.node none .nil (.node none .nil (.node none (.node none .nil (.node (some ⟨84,[(0, .ptr 0 []),(4, .ptr 4 []),(5, .ptr 5 [])],[⟨0,true,false, .ro,y5⟩,⟨4,true,false, .ro,y6⟩,⟨5,true,false, .ro,y6⟩]⟩) .nil .nil)) .nil)))) Go.Proofs.Tryz.f73 (.ptr y5 .ro .ro) [y2] y6 1 .ro=(S73 N).f:=by kernel_rfl
theorem s73 (N:Nat):Sat Go.Proofs.Tryz.prog 73 (S73 N):=sat_eq (ctx_cons tabs (ctx_cons tabs (ctx_cons tabs (ctx_cons tabs (ctx_nil tabs (by kernel_rfl)) (s107 N)) (s101 N)) (s74 N)) (s71 N)) Go.Proofs.Tryz.func73 (by kernel_rfl) (by kernel_rfl) (by decide) (by decide) (e73 N)
noncomputable def S41 (N:Nat):Go.Rx.Spec:=⟨(.ptr y5 .ro .ro),[],y2,1,y10,fun g x=>Px.Q76 N g⟩
theorem e41 (N:Nat):evalFn (ctx tab [(20,S20 N),(69,S69 N),(70,S70 N),(71,S71 N),(72,S72 N),(73,S73 N),(74,S74 N)]) N (.node none .nil (.node none .nil (.node none .nil (.node none (.node none .nil (.node (some ⟨66,[(0, .ptr 0 []),(2, .ptr 2 []),(4, .ptr 4 [])],[⟨0,true,false, .ro,y5⟩,⟨2,true,false,y10,y2⟩,⟨4,true,false,y10,y2⟩]⟩) (.node (some ⟨66,[(0, .ptr 0 []),(2, .ptr 2 []),(4, .ptr 4 []),(5, .val y1)],[⟨0,true,false, .ro,y5⟩,⟨2,true,false,y10,y2⟩,⟨4,true,false,y10,y2⟩]⟩) .nil .nil) .nil)) .nil)))) Go.Proofs.Tryz.f41 (.ptr y5 .ro .ro) [] y2 1 y10=(S41 N).f:=by kernel_rfl
theorem s41 (N:Nat):Sat Go.Proofs.Tryz.prog 41 (S41 N):=sat_eq (ctx_cons tabs (ctx_cons tabs (ctx_cons tabs (ctx_cons tabs (ctx_cons tabs (ctx_cons tabs (ctx_cons tabs (ctx_nil tabs (by kernel_rfl)) (s74 N)) (s73 N)) (s72 N)) (s71 N)) (s70 N)) (s69 N)) (s20 N)) Go.Proofs.Tryz.func41 (by kernel_rfl) (by kernel_rfl) (by decide) (by decide) (e41 N)
noncomputable def S17 (N:Nat):Go.Rx.Spec:=⟨.none,[y14],y2,1,y10,fun _ x=>Px.Q84 N x.1⟩
theorem e17 (N:Nat):evalFn (ctx tab [(41,S41 N)]) N .nil Go.Proofs.Tryz.f17 .none [y14] y2 1 y10=(S17 N).f:=by kernel_rfl
theorem s17 (N:Nat):Sat Go.Proofs.Tryz.prog 17 (S17 N):=sat_eq (ctx_cons tabs (ctx_nil tabs (by kernel_rfl)) (s41 N)) Go.Proofs.Tryz.func17 (by kernel_rfl) (by kernel_rfl) (by decide) (by decide) (e17 N)
noncomputable def S5 (N:Nat):Go.Rx.Spec:=⟨.none,[y14],y2,1,y10,fun _ x=>Px.Q85 N x.1⟩
theorem e5 (N:Nat):evalFn (ctx tab [(17,S17 N)]) N .nil Go.Proofs.Tryz.f5 .none [y14] y2 1 y10=(S5 N).f:=by kernel_rfl
theorem s5 (N:Nat):Sat Go.Proofs.Tryz.prog 5 (S5 N):=sat_eq (ctx_cons tabs (ctx_nil tabs (by kernel_rfl)) (s17 N)) Go.Proofs.Tryz.func5 (by kernel_rfl) (by kernel_rfl) (by decide) (by decide) (e5 N)
noncomputable def S5w (N:Nat):Go.Rx.Spec:=⟨.none,[y14],y2,1, .ro,fun _ x=>Px.Q85 N x.1⟩
theorem s5w (N:Nat):Sat Go.Proofs.Tryz.prog 5 (S5w N):=sat_weak (s5 N) (by rfl)
noncomputable def S30 (N:Nat):Go.Rx.Spec:=⟨.none,[y1,y1,y1], .bool,1, .ro,fun _ x=>Px.Q68 N x.1 x.2.1 x.2.2.1⟩
theorem e30 (N:Nat):evalFn (ctx tab []) N .nil Go.Proofs.Tryz.f30 .none [y1,y1,y1] .bool 1 .ro=(S30 N).f:=by kernel_rfl
theorem s30 (N:Nat):Sat Go.Proofs.Tryz.prog 30 (S30 N):=sat_eq (ctx_nil tabs (by kernel_rfl)) Go.Proofs.Tryz.func30 (by kernel_rfl) (by kernel_rfl) (by decide) (by decide) (e30 N)
noncomputable def S42 (N:Nat):Go.Rx.Spec:=⟨.none,[y4,y1,y1], .bool,1, .ro,fun _ x=>Px.Q52 N x.1 x.2.1 x.2.2.1⟩
theorem e42 (N:Nat):evalFn (ctx tab [(30,S30 N)]) N (.node none .nil (.node none (.node none .nil (.node (some ⟨21,[],[]⟩) (.node (some ⟨21,[(1, .val y1),(2, .val y1),(9, .val y4),(10, .val y1),(11, .val y1)],[]⟩) .nil .nil) .nil)) .nil)) Go.Proofs.Tryz.f42 .none [y4,y1,y1] .bool 1 .ro=(S42 N).f:=by kernel_rfl
theorem s42 (N:Nat):Sat Go.Proofs.Tryz.prog 42 (S42 N):=sat_eq (ctx_cons tabs (ctx_nil tabs (by kernel_rfl)) (s30 N)) Go.Proofs.Tryz.func42 (by kernel_rfl) (by kernel_rfl) (by decide) (by decide) (e42 N)
noncomputable def S25 (N:Nat):Go.Rx.Spec:=⟨.none,[y0], .bool,1, .ro,fun _ x=>Px.Q31 N x.1⟩
theorem e25 (N:Nat):evalFn (ctx tab [(42,S42 N)]) N .nil Go.Proofs.Tryz.f25 .none [y0] .bool 1 .ro=(S25 N).f:=by kernel_rfl
theorem s25 (N:Nat):Sat Go.Proofs.Tryz.prog 25 (S25 N):=sat_eq (ctx_cons tabs (ctx_nil tabs (by kernel_rfl)) (s42 N)) Go.Proofs.Tryz.func25 (by kernel_rfl) (by kernel_rfl) (by decide) (by decide) (e25 N)
noncomputable def S61 (N:Nat):Go.Rx.Spec:=⟨.none,[y4],y1,1, .ro,fun _ x=>Px.Q67 N x.1⟩
theorem e61 (N:Nat):evalFn (ctx tab []) N (.node none .nil (.node none .nil (.node none (.node none .nil (.node (some ⟨17,[(3, .val y1)],[]⟩) (.node (some ⟨17,[(3, .val y1),(6, .val y4),(7, .val y1),(8, .val y1)],[]⟩) .nil .nil) .nil)) .nil))) Go.Proofs.Tryz.f61 .none [y4] y1 1 .ro=(S61 N).f:=by kernel_rfl
theorem s61 (N:Nat):Sat Go.Proofs.Tryz.prog 61 (S61 N):=sat_eq (ctx_nil tabs (by kernel_rfl)) Go.Proofs.Tryz.func61 (by kernel_rfl) (by kernel_rfl) (by decide) (by decide) (e61 N)
noncomputable def S43 (N:Nat):Go.Rx.Spec:=⟨.none,[y2,y1],y1,1, .ro,fun _ x=>Px.Q41 N x.1 x.2.1⟩
theorem e43 (N:Nat):evalFn (ctx tab [(61,S61 N)]) N .nil Go.Proofs.Tryz.f43 .none [y2,y1] y1 1 .ro=(S43 N).f:=by kernel_rfl
theorem s43 (N:Nat):Sat Go.Proofs.Tryz.prog 43 (S43 N):=sat_eq (ctx_cons tabs (ctx_nil tabs (by kernel_rfl)) (s61 N)) Go.Proofs.Tryz.func43 (by kernel_rfl) (by kernel_rfl) (by decide) (by decide) (e43 N)
noncomputable def S18 (N:Nat):Go.Rx.Spec:=⟨.none,[y2], .bool,1, .ro,fun _ x=>Px.Q32 N x.1⟩
theorem e18 (N:Nat):evalFn (ctx tab [(25,S25 N),(30,S30 N),(42,S42 N),(43,S43 N)]) N (.node none .nil (.node none .nil (.node none (.node none .nil (.node (some ⟨44,[],[]⟩) (.node (some ⟨44,[(1, .ptr 1 []),(34, .val y1),(35, .val y1)],[⟨1,true,false, .ro,y2⟩]⟩) .nil .nil) .nil)) .nil))) Go.Proofs.Tryz.f18 .none [y2] .bool 1 .ro=(S18 N).f:=by kernel_rfl
theorem s18 (N:Nat):Sat Go.Proofs.Tryz.prog 18 (S18 N):=sat_eq (ctx_cons tabs (ctx_cons tabs (ctx_cons tabs (ctx_cons tabs (ctx_nil tabs (by kernel_rfl)) (s43 N)) (s42 N)) (s30 N)) (s25 N)) Go.Proofs.Tryz.func18 (by kernel_rfl) (by kernel_rfl) (by decide) (by decide) (e18 N)
noncomputable def S44 (N:Nat):Go.Rx.Spec:=⟨.none,[y4],y4,1,(.own .ro),fun _ x=>Px.Q56 N x.1⟩
theorem e44 (N:Nat):evalFn (ctx tab []) N .nil Go.Proofs.Tryz.f44 .none [y4] y4 1 (.own .ro)=(S44 N).f:=by kernel_rfl
theorem s44 (N:Nat):Sat Go.Proofs.Tryz.prog 44 (S44 N):=sat_eq (ctx_nil tabs (by kernel_rfl)) Go.Proofs.Tryz.func44 (by kernel_rfl) (by kernel_rfl) (by decide) (by decide) (e44 N)
noncomputable def S19 (N:Nat):Go.Rx.Spec:=⟨.none,[y2],y2,1,y10,fun _ x=>Px.Q39 N x.1⟩
theorem e19 (N:Nat):evalFn (ctx tab [(44,S44 N)]) N .nil Go.Proofs.Tryz.f19 .none [y2] y2 1 y10=(S19 N).f:=by kernel_rfl
theorem s19 (N:Nat):Sat Go.Proofs.Tryz.prog 19 (S19 N):=sat_eq (ctx_cons tabs (ctx_nil tabs (by kernel_rfl)) (s44 N)) Go.Proofs.Tryz.func19 (by kernel_rfl) (by kernel_rfl) (by decide) (by decide) (e19 N)
noncomputable def S19w (N:Nat):Go.Rx.Spec:=⟨.none,[y2],y2,1, .ro,fun _ x=>Px.Q39 N x.1⟩
theorem s19w (N:Nat):Sat Go.Proofs.Tryz.prog 19 (S19w N):=sat_weak (s19 N) (by rfl)
noncomputable def S6 (N:Nat):Go.Rx.Spec:=⟨.none,[y2],(.prod (.prod y2 y8) .bool),2,(.pr (.pr y10 .ro) .ro),fun _ x=>Px.Q43 N x.1⟩
theorem e6 (N:Nat):evalFn (ctx tab [(18,S18 N),(19,S19 N)]) N .nil Go.Proofs.Tryz.f6 .none [y2] (.prod (.prod y2 y8) .bool) 2 (.pr (.pr y10 .ro) .ro)=(S6 N).f:=by kernel_rfl
theorem s6 (N:Nat):Sat Go.Proofs.Tryz.prog 6 (S6 N):=sat_eq (ctx_cons tabs (ctx_cons tabs (ctx_nil tabs (by kernel_rfl)) (s19 N)) (s18 N)) Go.Proofs.Tryz.func6 (by kernel_rfl) (by kernel_rfl) (by decide) (by decide) (e6 N)
noncomputable def S6w (N:Nat):Go.Rx.Spec:=⟨.none,[y2],(.prod (.prod y2 y8) .bool),2, .ro,fun _ x=>Px.Q43 N x.1⟩
theorem s6w (N:Nat):Sat Go.Proofs.Tryz.prog 6 (S6w N):=sat_weak (s6 N) (by rfl)
noncomputable def S7 (N:Nat):Go.Rx.Spec:=⟨.none,[y2], .bool,1, .ro,fun _ x=>Px.Q86 N x.1⟩
theorem e7 (N:Nat):evalFn (ctx tab [(20,S20 N)]) N .nil Go.Proofs.Tryz.f7 .none [y2] .bool 1 .ro=(S7 N).f:=by kernel_rfl
theorem s7 (N:Nat):Sat Go.Proofs.Tryz.prog 7 (S7 N):=sat_eq (ctx_cons tabs (ctx_nil tabs (by kernel_rfl)) (s20 N)) Go.Proofs.Tryz.func7 (by kernel_rfl) (by kernel_rfl) (by decide) (by decide) (e7 N)
noncomputable def S77 (N:Nat):Go.Rx.Spec:=⟨.none,[.str, .str], .bool,1, .ro,fun _ x=>Px.strings_ContainsAny N x.1 x.2.1⟩
theorem s77 (N:Nat):Sat Go.Proofs.Tryz.prog 77 (S77 N):=sat_containsAny Go.Proofs.Tryz.func77 (by kernel_rfl) (by kernel_rfl) Go.Proofs.Tryz.strings_ContainsAny_laid
noncomputable def S50 (N:Nat):Go.Rx.Spec:=⟨.none,[.str,y1, .str], .bool,1, .ro,fun _ x=>Px.Q61 N x.1 x.2.1 x.2.2.1⟩
theorem e50 (N:Nat):evalFn (ctx tab [(77,S77 N)]) N (.node none .nil (.node none (.node none .nil (.node (some ⟨34,[(0, .val .str),(1, .val y1),(2, .val .str)],[]⟩) (.node (some ⟨34,[(0, .val .str),(1, .val y1),(2, .val .str),(9, .val y1),(10, .val y1)],[]⟩) .nil .nil) .nil)) .nil)) Go.Proofs.Tryz.f50 .none [.str,y1, .str] .bool 1 .ro=(S50 N).f:=by kernel_rfl
theorem s50 (N:Nat):Sat Go.Proofs.Tryz.prog 50 (S50 N):=sat_eq (ctx_cons tabs (ctx_nil tabs (by kernel_rfl)) (s77 N)) Go.Proofs.Tryz.func50 (by kernel_rfl) (by kernel_rfl) (by decide) (by decide) (e50 N)
noncomputable def S22 (N:Nat):Go.Rx.Spec:=⟨.none,[.str], .bool,1, .ro,fun _ x=>Px.Q59 N x.1⟩
theorem e22 (N:Nat):evalFn (ctx tab [(50,S50 N)]) N .nil Go.Proofs.Tryz.f22 .none [.str] .bool 1 .ro=(S22 N).f:=by kernel_rfl
theorem s22 (N:Nat):Sat Go.Proofs.Tryz.prog 22 (S22 N):=sat_eq (ctx_cons tabs (ctx_nil tabs (by kernel_rfl)) (s50 N)) Go.Proofs.Tryz.func22 (by kernel_rfl) (by kernel_rfl) (by decide) (by decide) (e22 N)
noncomputable def S57 (N:Nat):Go.Rx.Spec:=⟨.none,[y15], .bool,1, .ro,fun _ x=>Px.Q35 N x.1⟩
theorem e57 (N:Nat):evalFn (ctx tab [(22,S22 N),(50,S50 N)]) N .nil Go.Proofs.Tryz.f57 .none [y15] .bool 1 .ro=(S57 N).f:=by kernel_rfl
theorem s57 (N:Nat):Sat Go.Proofs.Tryz.prog 57 (S57 N):=sat_eq (ctx_cons tabs (ctx_cons tabs (ctx_nil tabs (by kernel_rfl)) (s50 N)) (s22 N)) Go.Proofs.Tryz.func57 (by kernel_rfl) (by kernel_rfl) (by decide) (by decide) (e57 N)
noncomputable def S66 (N:Nat):Go.Rx.Spec:=⟨.none,[y1], .str,1, .ro,fun _ x=>Px.strconv_Itoa N x.1⟩
theorem s66 (N:Nat):Sat Go.Proofs.Tryz.prog 66 (S66 N):=sat_itoa gm Go.Proofs.Tryz.func66 (by kernel_rfl) (by kernel_rfl) Go.Proofs.Tryz.strconv_Itoa
noncomputable def S67 (N:Nat):Go.Rx.Spec:=⟨.none,[.str, .str], .bool,1, .ro,fun _ x=>Px.strings_Contains N x.1 x.2.1⟩
theorem s67 (N:Nat):Sat Go.Proofs.Tryz.prog 67 (S67 N):=sat_contains gm Go.Proofs.Tryz.func67 (by kernel_rfl) (by kernel_rfl) Go.Proofs.Tryz.strings_Contains
noncomputable def S120 (N:Nat):Go.Rx.Spec:=⟨.none,[.str],y1,1, .ro,fun _ x=>Px.Q55 N x.1⟩
theorem e120 (N:Nat):evalFn (ctx tab []) N (.node none .nil (.node none .nil (.node none (.node none .nil (.node (some ⟨21,[(3, .val y1)],[]⟩) (.node (some ⟨21,[(0, .val .str),(3, .val y1),(6, .val y1),(7, .val y1)],[]⟩) .nil .nil) .nil)) .nil))) Go.Proofs.Tryz.f120 .none [.str] y1 1 .ro=(S120 N).f:=by kernel_rfl
theorem s120 (N:Nat):Sat Go.Proofs.Tryz.prog 120 (S120 N):=sat_eq (ctx_nil tabs (by kernel_rfl)) Go.Proofs.Tryz.func120 (by kernel_rfl) (by kernel_rfl) (by decide) (by decide) (e120 N)
noncomputable def S92 (N:Nat):Go.Rx.Spec:=⟨.none,[.str],y9,2, .ro,fun _ x=>Px.Q3 N x.1⟩
theorem e92 (N:Nat):evalFn (ctx tab [(66,S66 N),(67,S67 N),(120,S120 N)]) N .nil Go.Proofs.Tryz.f92 .none [.str] y9 2 .ro=(S92 N).f:=by kernel_rfl
theorem s92 (N:Nat):Sat Go.Proofs.Tryz.prog 92 (S92 N):=sat_eq (ctx_cons tabs (ctx_cons tabs (ctx_cons tabs (ctx_nil tabs (by kernel_rfl)) (s120 N)) (s67 N)) (s66 N)) Go.Proofs.Tryz.func92 (by kernel_rfl) (by kernel_rfl) (by decide) (by decide) (e92 N)
noncomputable def S58 (N:Nat):Go.Rx.Spec:=⟨.none,[y1,y15],y9,2, .ro,fun _ x=>Px.Q25 N x.1 x.2.1⟩
theorem e58 (N:Nat):evalFn (ctx tab [(30,S30 N),(57,S57 N),(66,S66 N),(92,S92 N)]) N .nil Go.Proofs.Tryz.f58 .none [y1,y15] y9 2 .ro=(S58 N).f:=by kernel_rfl
theorem s58 (N:Nat):Sat Go.Proofs.Tryz.prog 58 (S58 N):=sat_eq (ctx_cons tabs (ctx_cons tabs (ctx_cons tabs (ctx_cons tabs (ctx_nil tabs (by kernel_rfl)) (s92 N)) (s66 N)) (s57 N)) (s30 N)) Go.Proofs.Tryz.func58 (by kernel_rfl) (by kernel_rfl) (by decide) (by decide) (e58 N)
noncomputable def S108 (N:Nat):Go.Rx.Spec:=⟨.none,[.str, .str],(.prod .str y9),3, .ro,fun _ x=>Px.strings_Cut N x.1 x.2.1⟩
theorem s108 (N:Nat):Sat Go.Proofs.Tryz.prog 108 (S108 N):=sat_cut gm Go.Proofs.Tryz.func108 (by kernel_rfl) (by kernel_rfl) Go.Proofs.Tryz.strings_Cut
noncomputable def S109 (N:Nat):Go.Rx.Spec:=⟨.none,[.str],y9,2, .ro,fun _ x=>Px.Q50 N x.1⟩
theorem e109 (N:Nat):evalFn (ctx tab [(92,S92 N),(108,S108 N)]) N .nil Go.Proofs.Tryz.f109 .none [.str] y9 2 .ro=(S109 N).f:=by kernel_rfl
theorem s109 (N:Nat):Sat Go.Proofs.Tryz.prog 109 (S109 N):=sat_eq (ctx_cons tabs (ctx_cons tabs (ctx_nil tabs (by kernel_rfl)) (s108 N)) (s92 N)) Go.Proofs.Tryz.func109 (by kernel_rfl) (by kernel_rfl) (by decide) (by decide) (e109 N)
noncomputable def S75 (N:Nat):Go.Rx.Spec:=⟨.none,[.str],(.prod (.slice 57 y15) y4),2,(.pr (.own .ro) (.own .ro)),fun _ x=>Px.Q64 N x.1⟩
theorem e75 (N:Nat):evalFn (ctx tab [(58,S58 N),(108,S108 N),(109,S109 N)]) N (.node none .nil (.node none .nil (.node none (.node (some ⟨83,[(4, .vw 18 []),(5, .vw 19 [])],[⟨18,false,false,(.own .ro),(.slice 57 y15)⟩,⟨19,false,false,(.own .ro),y4⟩]⟩) (.node (some ⟨83,[(0, .val .str),(4, .vw 18 []),(5, .vw 19 []),(6, .val y1)],[⟨18,false,false,(.own .ro),(.slice 57 y15)⟩,⟨19,false,false,(.own .ro),y4⟩]⟩) .nil .nil) .nil) .nil))) Go.Proofs.Tryz.f75 .none [.str] (.prod (.slice 57 y15) y4) 2 (.pr (.own .ro) (.own .ro))=(S75 N).f:=by kernel_rfl
theorem s75 (N:Nat):Sat Go.Proofs.Tryz.prog 75 (S75 N):=sat_eq (ctx_cons tabs (ctx_cons tabs (ctx_cons tabs (ctx_nil tabs (by kernel_rfl)) (s109 N)) (s108 N)) (s58 N)) Go.Proofs.Tryz.func75 (by kernel_rfl) (by kernel_rfl) (by decide) (by decide) (e75 N)
noncomputable def S110 (N:Nat):Go.Rx.Spec:=⟨.none,[y4,y1],y1,1, .ro,fun _ x=>Px.Q83 N x.1 x.2.1⟩
theorem e110 (N:Nat):evalFn (ctx tab []) N (.node none .nil (.node none (.node none .nil (.node (some ⟨19,[],[]⟩) (.node (some ⟨19,[(0, .val y4),(1, .val y1),(7, .val y1),(8, .val y1)],[]⟩) .nil .nil) .nil)) .nil)) Go.Proofs.Tryz.f110 .none [y4,y1] y1 1 .ro=(S110 N).f:=by kernel_rfl
theorem s110 (N:Nat):Sat Go.Proofs.Tryz.prog 110 (S110 N):=sat_eq (ctx_nil tabs (by kernel_rfl)) Go.Proofs.Tryz.func110 (by kernel_rfl) (by kernel_rfl) (by decide) (by decide) (e110 N)
noncomputable def S76 (N:Nat):Go.Rx.Spec:=⟨.none,[y4,y1], .bool,1, .ro,fun _ x=>Px.Q82 N x.1 x.2.1⟩
theorem e76 (N:Nat):evalFn (ctx tab [(110,S110 N)]) N .nil Go.Proofs.Tryz.f76 .none [y4,y1] .bool 1 .ro=(S76 N).f:=by kernel_rfl
theorem s76 (N:Nat):Sat Go.Proofs.Tryz.prog 76 (S76 N):=sat_eq (ctx_cons tabs (ctx_nil tabs (by kernel_rfl)) (s110 N)) Go.Proofs.Tryz.func76 (by kernel_rfl) (by kernel_rfl) (by decide) (by decide) (e76 N)
noncomputable def S49 (N:Nat):Go.Rx.Spec:=⟨.none,[y8], .bool,1, .ro,fun _ x=>Px.Q34 N x.1⟩
theorem e49 (N:Nat):evalFn (ctx tab [(75,S75 N),(76,S76 N)]) N .nil Go.Proofs.Tryz.f49 .none [y8] .bool 1 .ro=(S49 N).f:=by kernel_rfl
theorem s49 (N:Nat):Sat Go.Proofs.Tryz.prog 49 (S49 N):=sat_eq (ctx_cons tabs (ctx_cons tabs (ctx_nil tabs (by kernel_rfl)) (s76 N)) (s75 N)) Go.Proofs.Tryz.func49 (by kernel_rfl) (by kernel_rfl) (by decide) (by decide) (e49 N)
noncomputable def S21 (N:Nat):Go.Rx.Spec:=⟨.none,[(.prod y2 y8)], .bool,1, .ro,fun _ x=>Px.Q33 N x.1⟩
theorem e21 (N:Nat):evalFn (ctx tab [(18,S18 N),(49,S49 N)]) N .nil Go.Proofs.Tryz.f21 .none [(.prod y2 y8)] .bool 1 .ro=(S21 N).f:=by kernel_rfl
theorem s21 (N:Nat):Sat Go.Proofs.Tryz.prog 21 (S21 N):=sat_eq (ctx_cons tabs (ctx_cons tabs (ctx_nil tabs (by kernel_rfl)) (s49 N)) (s18 N)) Go.Proofs.Tryz.func21 (by kernel_rfl) (by kernel_rfl) (by decide) (by decide) (e21 N)
noncomputable def S51 (N:Nat):Go.Rx.Spec:=⟨.none,[.str, .str],y12,1,(.own .ro),fun _ x=>Px.strings_Split N x.1 x.2.1⟩
theorem s51 (N:Nat):Sat Go.Proofs.Tryz.prog 51 (S51 N):=sat_split gm Go.Proofs.Tryz.func51 (by kernel_rfl) (by kernel_rfl) Go.Proofs.Tryz.strings_Split
noncomputable def S79 (N:Nat):Go.Rx.Spec:=⟨.none,[.str],(.prod y1 .err),2, .ro,fun _ x=>Px.strconv_Atoi N x.1⟩
theorem s79 (N:Nat):Sat Go.Proofs.Tryz.prog 79 (S79 N):=sat_atoi gm ge Go.Proofs.Tryz.func79 (by kernel_rfl) (by kernel_rfl) (by kernel_rfl) Go.Proofs.Tryz.strconv_Atoi (fun s hs ho ev w hc hv=>(Go.Proofs.Tryz.strconv_Atoi_err s hs ho ev w hc hv).mono fun e1 w' ⟨n,h1,_,_,h4⟩=>⟨⟨_,_,h1⟩,h4⟩)
noncomputable def S52 (N:Nat):Go.Rx.Spec:=⟨.none,[.str],y13,2, .ro,fun _ x=>Px.Q44 N x.1⟩
theorem e52 (N:Nat):evalFn (ctx tab [(30,S30 N),(66,S66 N),(79,S79 N)]) N .nil Go.Proofs.Tryz.f52 .none [.str] y13 2 .ro=(S52 N).f:=by kernel_rfl
theorem s52 (N:Nat):Sat Go.Proofs.Tryz.prog 52 (S52 N):=sat_eq (ctx_cons tabs (ctx_cons tabs (ctx_cons tabs (ctx_nil tabs (by kernel_rfl)) (s79 N)) (s66 N)) (s30 N)) Go.Proofs.Tryz.func52 (by kernel_rfl) (by kernel_rfl) (by decide) (by decide) (e52 N)
noncomputable def S53 (N:Nat):Go.Rx.Spec:=⟨.none,[.str,y4],(.prod y6 .bool),2, .ro,fun _ x=>Px.impl_actOf N x.1 x.2.1⟩
theorem s53 (N:Nat):Sat Go.Proofs.Tryz.prog 53 (S53 N):=sat_actOf Go.Proofs.Tryz.func53 (by kernel_rfl) (by kernel_rfl) (act_walk fun b off n c zs x w h1 h2 h3=>Go.Proofs.Tryz.slices_Index_string b off n c zs x w h1 h2 h3)
noncomputable def S31 (N:Nat):Go.Rx.Spec:=⟨.none,[y0,y4],y11,2,y7,fun _ x=>Px.Q20 N x.1 x.2.1⟩
theorem e31 (N:Nat):evalFn (ctx tab []) N (.node none .nil (.node none .nil (.node none (.node none .nil (.node (some ⟨53,[(6, .vw 13 [])],[⟨13,false,false,(.own .ro),y4⟩]⟩) (.node (some ⟨53,[(1, .val y4),(6, .vw 13 []),(7, .val y1),(15, .val y4),(16, .val y1),(17, .val y1)],[⟨13,false,false,(.own .ro),y4⟩]⟩) (.node none .nil (.node none .nil (.node none (.node none (.node none .nil (.node none (.node none (.node (some ⟨53,[(1, .val y4),(6, .vw 13 []),(7, .val y1),(9, .val y1),(15, .val y4),(16, .val y1),(17, .val y1),(33, .val .bool)],[⟨13,false,false,(.own .ro),y4⟩]⟩) .nil .nil) (.node (some ⟨53,[(1, .val y4),(6, .vw 13 []),(7, .val y1),(9, .val y1),(15, .val y4),(16, .val y1),(17, .val y1)],[⟨13,false,false,(.own .ro),y4⟩]⟩) .nil .nil)) .nil)) .nil) .nil))) .nil) .nil)) .nil))) Go.Proofs.Tryz.f31 .none [y0,y4] y11 2 y7=(S31 N).f:=by kernel_rfl
theorem s31 (N:Nat):Sat Go.Proofs.Tryz.prog 31 (S31 N):=sat_eq (ctx_nil tabs (by kernel_rfl)) Go.Proofs.Tryz.func31 (by kernel_rfl) (by kernel_rfl) (by decide) (by decide) (e31 N)
noncomputable def S63 (N:Nat):Go.Rx.Spec:=⟨.none,[y0,y4],(.prod y1 (.prod y1 y1)),3, .ro,fun _ x=>Px.Q19 N x.1 x.2.1⟩
theorem e63 (N:Nat):evalFn (ctx tab []) N (.node none .nil (.node none .nil (.node none (.node none .nil (.node (some ⟨60,[(7, .val y1),(8, .val y1),(9, .val y1)],[]⟩) (.node (some ⟨60,[(2, .ptr 2 []),(7, .val y1),(8, .val y1),(9, .val y1),(10, .val y1),(13, .val y4),(14, .val y1),(15, .val y1)],[⟨2,true,false, .ro,y0⟩]⟩) (.node none .nil (.node none .nil (.node none (.node none (.node none .nil (.node none .nil (.node none (.node none .nil (.node (some ⟨60,[(2, .ptr 2 []),(7, .val y1),(8, .val y1),(9, .val y1),(10, .val y1),(11, .val y1),(12, .val y1),(13, .val y4),(14, .val y1),(15, .val y1)],[⟨2,true,false, .ro,y0⟩]⟩) .nil .nil)) .nil))) .nil) .nil))) .nil) .nil)) .nil))) Go.Proofs.Tryz.f63 .none [y0,y4] (.prod y1 (.prod y1 y1)) 3 .ro=(S63 N).f:=by kernel_rfl
theorem s63 (N:Nat):Sat Go.Proofs.Tryz.prog 63 (S63 N):=sat_eq (ctx_nil tabs (by kernel_rfl)) Go.Proofs.Tryz.func63 (by kernel_rfl) (by kernel_rfl) (by decide) (by decide) (e63 N)
noncomputable def S33 (N:Nat):Go.Rx.Spec:=⟨.none,[y0,y4],y1,1, .ro,fun _ x=>Px.Q13 N x.1 x.2.1⟩
theorem e33 (N:Nat):evalFn (ctx tab [(63,S63 N)]) N .nil Go.Proofs.Tryz.f33 .none [y0,y4] y1 1 .ro=(S33 N).f:=by kernel_rfl
theorem s33 (N:Nat):Sat Go.Proofs.Tryz.prog 33 (S33 N):=sat_eq (ctx_cons tabs (ctx_nil tabs (by kernel_rfl)) (s63 N)) Go.Proofs.Tryz.func33 (by kernel_rfl) (by kernel_rfl) (by decide) (by decide) (e33 N)
noncomputable def S121 (N:Nat):Go.Rx.Spec:=⟨.none,[y1], .bool,1, .ro,fun _ x=>Px.Q1 N x.1⟩
theorem e121 (N:Nat):evalFn (ctx tab []) N .nil Go.Proofs.Tryz.f121 .none [y1] .bool 1 .ro=(S121 N).f:=by kernel_rfl
theorem s121 (N:Nat):Sat Go.Proofs.Tryz.prog 121 (S121 N):=sat_eq (ctx_nil tabs (by kernel_rfl)) Go.Proofs.Tryz.func121 (by kernel_rfl) (by kernel_rfl) (by decide) (by decide) (e121 N)
noncomputable def S93 (N:Nat):Go.Rx.Spec:=⟨.none,[y1,y1],y1,1, .ro,fun _ x=>Px.Q0 N x.1 x.2.1⟩
theorem e93 (N:Nat):evalFn (ctx tab [(121,S121 N)]) N .nil Go.Proofs.Tryz.f93 .none [y1,y1] y1 1 .ro=(S93 N).f:=by kernel_rfl
theorem s93 (N:Nat):Sat Go.Proofs.Tryz.prog 93 (S93 N):=sat_eq (ctx_cons tabs (ctx_nil tabs (by kernel_rfl)) (s121 N)) Go.Proofs.Tryz.func93 (by kernel_rfl) (by kernel_rfl) (by decide) (by decide) (e93 N)
noncomputable def S59 (N:Nat):Go.Rx.Spec:=⟨.none,[y4,y4],y1,1, .ro,fun _ x=>Px.Q81 N x.1 x.2.1⟩
theorem e59 (N:Nat):evalFn (ctx tab [(93,S93 N)]) N (.node none .nil (.node none (.node none .nil (.node (some ⟨36,[(0, .val y4),(1, .val y4)],[]⟩) (.node (some ⟨36,[(0, .val y4),(1, .val y4),(9, .val y4),(10, .val y1),(11, .val y1)],[]⟩) .nil .nil) .nil)) .nil)) Go.Proofs.Tryz.f59 .none [y4,y4] y1 1 .ro=(S59 N).f:=by kernel_rfl
theorem s59 (N:Nat):Sat Go.Proofs.Tryz.prog 59 (S59 N):=sat_eq (ctx_cons tabs (ctx_nil tabs (by kernel_rfl)) (s93 N)) Go.Proofs.Tryz.func59 (by kernel_rfl) (by kernel_rfl) (by decide) (by decide) (e59 N)
noncomputable def S26 (N:Nat):Go.Rx.Spec:=⟨.none,[y0],(.prod y4 y1),2,y7,fun _ x=>Px.Q9 N x.1⟩
theorem e26 (N:Nat):evalFn (ctx tab [(31,S31 N),(33,S33 N),(59,S59 N)]) N (.node none .nil (.node none .nil (.node none (.node none .nil (.node (some ⟨86,[(4, .vw 4 []),(5, .val y1)],[⟨4,false,false,(.own .ro),y4⟩]⟩) (.node (some ⟨86,[(1, .ptr 1 []),(4, .vw 4 []),(5, .val y1),(16, .val y1),(17, .val y1)],[⟨1,true,false, .ro,y0⟩,⟨4,false,false,(.own .ro),y4⟩]⟩) (.node none .nil (.node none .nil (.node none (.node none (.node none .nil (.node none .nil (.node none (.node none .nil (.node (some ⟨86,[(1, .ptr 1 []),(4, .vw 4 []),(5, .val y1),(7, .vw 20 []),(16, .val y1),(17, .val y1)],[⟨1,true,false, .ro,y0⟩,⟨4,false,false,(.own .ro),y4⟩,⟨20,false,false,(.own .ro),y4⟩]⟩) (.node (some ⟨86,[(1, .ptr 1 []),(4, .vw 4 []),(5, .val y1),(6, .val y1),(7, .vw 20 []),(16, .val y1),(17, .val y1),(23, .val y1),(24, .val y1)],[⟨1,true,false, .ro,y0⟩,⟨4,false,false,(.own .ro),y4⟩,⟨20,false,false,(.own .ro),y4⟩]⟩) .nil .nil) .nil)) (.node none .nil (.node none .nil (.node none .nil (.node none (.node (some ⟨86,[(1, .ptr 1 []),(4, .vw 4 []),(5, .val y1),(7, .vw 20 []),(11, .val y1),(12, .val .bool),(16, .val y1),(17, .val y1)],[⟨1,true,false, .ro,y0⟩,⟨4,false,false,(.own .ro),y4⟩,⟨20,false,false,(.own .ro),y4⟩]⟩) .nil .nil) .nil))))))) .nil) .nil))) .nil) .nil)) .nil))) Go.Proofs.Tryz.f26 .none [y0] (.prod y4 y1) 2 y7=(S26 N).f:=by kernel_rfl
theorem s26 (N:Nat):Sat Go.Proofs.Tryz.prog 26 (S26 N):=sat_eq (ctx_cons tabs (ctx_cons tabs (ctx_cons tabs (ctx_nil tabs (by kernel_rfl)) (s59 N)) (s33 N)) (s31 N)) Go.Proofs.Tryz.func26 (by kernel_rfl) (by kernel_rfl) (by decide) (by decide) (e26 N)
noncomputable def S116 (N:Nat):Go.Rx.Spec:=⟨.none,[y0,y1,y1],y0,1,y3,fun _ x=>Px.Q14 N x.1 x.2.1 x.2.2.1⟩
theorem e116 (N:Nat):evalFn (ctx tab [(44,S44 N)]) N .nil Go.Proofs.Tryz.f116 .none [y0,y1,y1] y0 1 y3=(S116 N).f:=by kernel_rfl
theorem s116 (N:Nat):Sat Go.Proofs.Tryz.prog 116 (S116 N):=sat_eq (ctx_cons tabs (ctx_nil tabs (by kernel_rfl)) (s44 N)) Go.Proofs.Tryz.func116 (by kernel_rfl) (by kernel_rfl) (by decide) (by decide) (e116 N)
noncomputable def S117 (N:Nat):Go.Rx.Spec:=⟨.none,[y2],y4,1,(.own .ro),fun _ x=>Px.Q38 N x.1⟩
theorem e117 (N:Nat):evalFn (ctx tab [(43,S43 N)]) N (.node none .nil (.node none .nil (.node none (.node none .nil (.node (some ⟨38,[(3, .vw 8 [])],[⟨8,false,false,(.own .ro),y4⟩]⟩) (.node (some ⟨38,[(3, .vw 8 []),(4, .val y1),(18, .val y4),(19, .val y1),(20, .val y1)],[⟨8,false,false,(.own .ro),y4⟩]⟩) .nil .nil) .nil)) .nil))) Go.Proofs.Tryz.f117 .none [y2] y4 1 (.own .ro)=(S117 N).f:=by kernel_rfl
theorem s117 (N:Nat):Sat Go.Proofs.Tryz.prog 117 (S117 N):=sat_eq (ctx_cons tabs (ctx_nil tabs (by kernel_rfl)) (s43 N)) Go.Proofs.Tryz.func117 (by kernel_rfl) (by kernel_rfl) (by decide) (by decide) (e117 N)
noncomputable def S81 (N:Nat):Go.Rx.Spec:=⟨(.ptr y2 y10 y10),[y6], .bool,1, .ro,fun g x=>Px.Q72 N g x.1⟩
theorem e81 (N:Nat):evalFn (ctx tab [(26,S26 N),(30,S30 N),(31,S31 N),(116,S116 N),(117,S117 N)]) N (.node none .nil (.node none .nil (.node none (.node (some ⟨217,[(0, .ptr 0 []),(3, .ptr 3 []),(5, .ptr 0 [.fst]),(6, .val .bool)],[⟨0,true,false,y10,y2⟩,⟨3,true,false, .ro,y6⟩]⟩) .nil .nil) (.node none (.node (some ⟨217,[(0, .ptr 0 []),(3, .ptr 3 []),(5, .ptr 0 [.fst]),(6, .val .bool),(7, .val .bool)],[⟨0,true,false,y10,y2⟩,⟨3,true,false, .ro,y6⟩]⟩) .nil .nil) .nil)))) Go.Proofs.Tryz.f81 (.ptr y2 y10 y10) [y6] .bool 1 .ro=(S81 N).f:=by kernel_rfl
theorem s81 (N:Nat):Sat Go.Proofs.Tryz.prog 81 (S81 N):=sat_eq (ctx_cons tabs (ctx_cons tabs (ctx_cons tabs (ctx_cons tabs (ctx_cons tabs (ctx_nil tabs (by kernel_rfl)) (s117 N)) (s116 N)) (s31 N)) (s30 N)) (s26 N)) Go.Proofs.Tryz.func81 (by kernel_rfl) (by kernel_rfl) (by decide) (by decide) (e81 N)
noncomputable def S54 (N:Nat):Go.Rx.Spec:=⟨.none,[y2,y6],(.prod y2 .bool),2,(.pr y10 .ro),fun _ x=>Px.Q2 N x.1 x.2.1⟩
theorem e54 (N:Nat):evalFn (ctx tab [(18,S18 N),(19,S19 N),(81,S81 N)]) N .nil Go.Proofs.Tryz.f54 .none [y2,y6] (.prod y2 .bool) 2 (.pr y10 .ro)=(S54 N).f:=by kernel_rfl
theorem s54 (N:Nat):Sat Go.Proofs.Tryz.prog 54 (S54 N):=sat_eq (ctx_cons tabs (ctx_cons tabs (ctx_cons tabs (ctx_nil tabs (by kernel_rfl)) (s81 N)) (s19 N)) (s18 N)) Go.Proofs.Tryz.func54 (by kernel_rfl) (by kernel_rfl) (by decide) (by decide) (e54 N)
noncomputable def S39 (N:Nat):Go.Rx.Spec:=⟨.none,[y1],y9,2, .ro,fun _ x=>Px.Q28 N x.1⟩
theorem e39 (N:Nat):evalFn (ctx tab [(30,S30 N),(66,S66 N)]) N .nil Go.Proofs.Tryz.f39 .none [y1] y9 2 .ro=(S39 N).f:=by kernel_rfl
theorem s39 (N:Nat):Sat Go.Proofs.Tryz.prog 39 (S39 N):=sat_eq (ctx_cons tabs (ctx_cons tabs (ctx_nil tabs (by kernel_rfl)) (s66 N)) (s30 N)) Go.Proofs.Tryz.func39 (by kernel_rfl) (by kernel_rfl) (by decide) (by decide) (e39 N)
noncomputable def S82 (N:Nat):Go.Rx.Spec:=⟨.none,[y1, .bool],y9,2, .ro,fun _ x=>Px.Q63 N x.1 x.2.1⟩
theorem e82 (N:Nat):evalFn (ctx tab [(39,S39 N)]) N .nil Go.Proofs.Tryz.f82 .none [y1, .bool] y9 2 .ro=(S82 N).f:=by kernel_rfl
theorem s82 (N:Nat):Sat Go.Proofs.Tryz.prog 82 (S82 N):=sat_eq (ctx_cons tabs (ctx_nil tabs (by kernel_rfl)) (s39 N)) Go.Proofs.Tryz.func82 (by kernel_rfl) (by kernel_rfl) (by decide) (by decide) (e82 N)
noncomputable def S83 (N:Nat):Go.Rx.Spec:=⟨.none,[y2],y13,2, .ro,fun _ x=>Px.Q48 N x.1⟩
theorem e83 (N:Nat):evalFn (ctx tab [(18,S18 N),(43,S43 N)]) N .nil Go.Proofs.Tryz.f83 .none [y2] y13 2 .ro=(S83 N).f:=by kernel_rfl
theorem s83 (N:Nat):Sat Go.Proofs.Tryz.prog 83 (S83 N):=sat_eq (ctx_cons tabs (ctx_cons tabs (ctx_nil tabs (by kernel_rfl)) (s43 N)) (s18 N)) Go.Proofs.Tryz.func83 (by kernel_rfl) (by kernel_rfl) (by decide) (by decide) (e83 N)
noncomputable def S68 (N:Nat):Go.Rx.Spec:=⟨.none,[y12, .str], .str,1, .ro,fun _ x=>Px.strings_Join N x.1 x.2.1⟩
theorem s68 (N:Nat):Sat Go.Proofs.Tryz.prog 68 (S68 N):=sat_join Go.Proofs.Tryz.func68 (by kernel_rfl) (by kernel_rfl) Go.Proofs.Tryz.strings_Join_none Go.Proofs.Tryz.strings_Join
noncomputable def S84 (N:Nat):Go.Rx.Spec:=⟨.none,[y4, .bool],y9,2, .ro,fun _ x=>Px.Q62 N x.1 x.2.1⟩
theorem e84 (N:Nat):evalFn (ctx tab [(39,S39 N),(68,S68 N)]) N (.node none .nil (.node none .nil (.node none .nil (.node none (.node none .nil (.node (some ⟨37,[(6, .vw 13 [])],[⟨13,false,false,(.own .ro),y12⟩]⟩) (.node (some ⟨37,[(6, .vw 13 []),(14, .val y4),(15, .val y1),(16, .val y1)],[⟨13,false,false,(.own .ro),y12⟩]⟩) .nil .nil) .nil)) .nil)))) Go.Proofs.Tryz.f84 .none [y4, .bool] y9 2 .ro=(S84 N).f:=by kernel_rfl
theorem s84 (N:Nat):Sat Go.Proofs.Tryz.prog 84 (S84 N):=sat_eq (ctx_cons tabs (ctx_cons tabs (ctx_nil tabs (by kernel_rfl)) (s68 N)) (s39 N)) Go.Proofs.Tryz.func84 (by kernel_rfl) (by kernel_rfl) (by decide) (by decide) (e84 N)
noncomputable def S37 (N:Nat):Go.Rx.Spec:=⟨.none,[y2],y4,1,(.own .ro),fun _ x=>Px.Q40 N x.1⟩
theorem e37 (N:Nat):evalFn (ctx tab [(43,S43 N)]) N (.node none .nil (.node none .nil (.node none (.node none .nil (.node (some ⟨25,[(3, .vw 5 [])],[⟨5,false,false,(.own .ro),y4⟩]⟩) (.node (some ⟨25,[(1, .ptr 1 []),(3, .vw 5 []),(4, .val y1)],[⟨1,true,false, .ro,y2⟩,⟨5,false,false,(.own .ro),y4⟩]⟩) .nil .nil) .nil)) .nil))) Go.Proofs.Tryz.f37 .none [y2] y4 1 (.own .ro)=(S37 N).f:=by kernel_rfl
theorem s37 (N:Nat):Sat Go.Proofs.Tryz.prog 37 (S37 N):=sat_eq (ctx_cons tabs (ctx_nil tabs (by kernel_rfl)) (s43 N)) Go.Proofs.Tryz.func37 (by kernel_rfl) (by kernel_rfl) (by decide) (by decide) (e37 N)
noncomputable def S85 (N:Nat):Go.Rx.Spec:=⟨.none,[y2],y11,2,y7,fun _ x=>Px.Q47 N x.1⟩
theorem e85 (N:Nat):evalFn (ctx tab [(18,S18 N),(37,S37 N)]) N .nil Go.Proofs.Tryz.f85 .none [y2] y11 2 y7=(S85 N).f:=by kernel_rfl
theorem s85 (N:Nat):Sat Go.Proofs.Tryz.prog 85 (S85 N):=sat_eq (ctx_cons tabs (ctx_cons tabs (ctx_nil tabs (by kernel_rfl)) (s37 N)) (s18 N)) Go.Proofs.Tryz.func85 (by kernel_rfl) (by kernel_rfl) (by decide) (by decide) (e85 N)
noncomputable def S55 (N:Nat):Go.Rx.Spec:=⟨.none,[y2,y1],y9,2, .ro,fun _ x=>Px.Q51 N x.1 x.2.1⟩
theorem e55 (N:Nat):evalFn (ctx tab [(82,S82 N),(83,S83 N),(84,S84 N),(85,S85 N)]) N .nil Go.Proofs.Tryz.f55 .none [y2,y1] y9 2 .ro=(S55 N).f:=by kernel_rfl
theorem s55 (N:Nat):Sat Go.Proofs.Tryz.prog 55 (S55 N):=sat_eq (ctx_cons tabs (ctx_cons tabs (ctx_cons tabs (ctx_cons tabs (ctx_nil tabs (by kernel_rfl)) (s85 N)) (s84 N)) (s83 N)) (s82 N)) Go.Proofs.Tryz.func55 (by kernel_rfl) (by kernel_rfl) (by decide) (by decide) (e55 N)
noncomputable def S9 (N:Nat):Go.Rx.Spec:=⟨.none,[y0],y13,2, .ro,fun _ x=>Px.Q5 N x.1⟩
theorem e9 (N:Nat):evalFn (ctx tab [(25,S25 N),(26,S26 N)]) N .nil Go.Proofs.Tryz.f9 .none [y0] y13 2 .ro=(S9 N).f:=by kernel_rfl
theorem s9 (N:Nat):Sat Go.Proofs.Tryz.prog 9 (S9 N):=sat_eq (ctx_cons tabs (ctx_cons tabs (ctx_nil tabs (by kernel_rfl)) (s26 N)) (s25 N)) Go.Proofs.Tryz.func9 (by kernel_rfl) (by kernel_rfl) (by decide) (by decide) (e9 N)
noncomputable def S28 (N:Nat):Go.Rx.Spec:=⟨.none,[y0,y1,y1],y1,1, .ro,fun _ x=>Px.Q21 N x.1 x.2.1 x.2.2.1⟩
theorem e28 (N:Nat):evalFn (ctx tab [(61,S61 N)]) N .nil Go.Proofs.Tryz.f28 .none [y0,y1,y1] y1 1 .ro=(S28 N).f:=by kernel_rfl
theorem s28 (N:Nat):Sat Go.Proofs.Tryz.prog 28 (S28 N):=sat_eq (ctx_cons tabs (ctx_nil tabs (by kernel_rfl)) (s61 N)) Go.Proofs.Tryz.func28 (by kernel_rfl) (by kernel_rfl) (by decide) (by decide) (e28 N)
noncomputable def S60 (N:Nat):Go.Rx.Spec:=⟨.none,[y0,y1,y1],y1,1, .ro,fun _ x=>Px.Q22 N x.1 x.2.1 x.2.2.1⟩
theorem e60 (N:Nat):evalFn (ctx tab [(28,S28 N),(61,S61 N)]) N (.node none .nil (.node none .nil (.node none .nil (.node none (.node none .nil (.node (some ⟨40,[(7, .val y1)],[]⟩) (.node (some ⟨40,[(1, .val y1),(2, .val y1),(3, .ptr 3 []),(7, .val y1),(8, .val y1)],[⟨3,true,false, .ro,y0⟩]⟩) .nil .nil) .nil)) .nil)))) Go.Proofs.Tryz.f60 .none [y0,y1,y1] y1 1 .ro=(S60 N).f:=by kernel_rfl
theorem s60 (N:Nat):Sat Go.Proofs.Tryz.prog 60 (S60 N):=sat_eq (ctx_cons tabs (ctx_cons tabs (ctx_nil tabs (by kernel_rfl)) (s61 N)) (s28 N)) Go.Proofs.Tryz.func60 (by kernel_rfl) (by kernel_rfl) (by decide) (by decide) (e60 N)
noncomputable def S27 (N:Nat):Go.Rx.Spec:=⟨.none,[y0],y4,1,(.own .ro),fun _ x=>Px.Q15 N x.1⟩
theorem e27 (N:Nat):evalFn (ctx tab [(60,S60 N)]) N (.node none .nil (.node none .nil (.node none (.node none .nil (.node (some ⟨43,[(3, .vw 7 [])],[⟨7,false,false,(.own .ro),y4⟩]⟩) (.node (some ⟨43,[(1, .ptr 1 []),(3, .vw 7 []),(4, .val y1)],[⟨1,true,false, .ro,y0⟩,⟨7,false,false,(.own .ro),y4⟩]⟩) (.node none .nil (.node none (.node none (.node none .nil (.node none (.node none .nil (.node (some ⟨43,[(1, .ptr 1 []),(3, .vw 7 []),(4, .val y1),(5, .val y1)],[⟨1,true,false, .ro,y0⟩,⟨7,false,false,(.own .ro),y4⟩]⟩) (.node (some ⟨43,[(1, .ptr 1 []),(3, .vw 7 []),(4, .val y1),(5, .val y1),(6, .val y1)],[⟨1,true,false, .ro,y0⟩,⟨7,false,false,(.own .ro),y4⟩]⟩) .nil .nil) .nil)) .nil)) .nil) .nil)) .nil) .nil)) .nil))) Go.Proofs.Tryz.f27 .none [y0] y4 1 (.own .ro)=(S27 N).f:=by kernel_rfl
theorem s27 (N:Nat):Sat Go.Proofs.Tryz.prog 27 (S27 N):=sat_eq (ctx_cons tabs (ctx_nil tabs (by kernel_rfl)) (s60 N)) Go.Proofs.Tryz.func27 (by kernel_rfl) (by kernel_rfl) (by decide) (by decide) (e27 N)
noncomputable def S10 (N:Nat):Go.Rx.Spec:=⟨.none,[y0],y11,2,y7,fun _ x=>Px.Q29 N x.1⟩
theorem e10 (N:Nat):evalFn (ctx tab [(25,S25 N),(27,S27 N)]) N .nil Go.Proofs.Tryz.f10 .none [y0] y11 2 y7=(S10 N).f:=by kernel_rfl
theorem s10 (N:Nat):Sat Go.Proofs.Tryz.prog 10 (S10 N):=sat_eq (ctx_cons tabs (ctx_cons tabs (ctx_nil tabs (by kernel_rfl)) (s27 N)) (s25 N)) Go.Proofs.Tryz.func10 (by kernel_rfl) (by kernel_rfl) (by decide) (by decide) (e10 N)
noncomputable def S10w (N:Nat):Go.Rx.Spec:=⟨.none,[y0],y11,2, .ro,fun _ x=>Px.Q29 N x.1⟩
theorem s10w (N:Nat):Sat Go.Proofs.Tryz.prog 10 (S10w N):=sat_weak (s10 N) (by rfl)
noncomputable def S29 (N:Nat):Go.Rx.Spec:=⟨.none,[y0,y1,y4],y1,1, .ro,fun _ x=>Px.Q12 N x.1 x.2.1 x.2.2.1⟩
theorem e29 (N:Nat):evalFn (ctx tab [(28,S28 N)]) N (.node none .nil (.node none .nil (.node none (.node none .nil (.node (some ⟨35,[(7, .val y1)],[]⟩) (.node (some ⟨35,[(1, .val y1),(2, .val y4),(3, .ptr 3 []),(7, .val y1),(8, .val y1)],[⟨3,true,false, .ro,y0⟩]⟩) .nil .nil) .nil)) .nil))) Go.Proofs.Tryz.f29 .none [y0,y1,y4] y1 1 .ro=(S29 N).f:=by kernel_rfl
theorem s29 (N:Nat):Sat Go.Proofs.Tryz.prog 29 (S29 N):=sat_eq (ctx_cons tabs (ctx_nil tabs (by kernel_rfl)) (s28 N)) Go.Proofs.Tryz.func29 (by kernel_rfl) (by kernel_rfl) (by decide) (by decide) (e29 N)
noncomputable def S11 (N:Nat):Go.Rx.Spec:=⟨.none,[y0],y11,2,y7,fun _ x=>Px.Q27 N x.1⟩
theorem e11 (N:Nat):evalFn (ctx tab [(25,S25 N),(28,S28 N),(29,S29 N)]) N (.node none .nil (.node none .nil (.node none .nil (.node none (.node none .nil (.node (some ⟨61,[(4, .vw 13 [])],[⟨13,false,false,(.own .ro),y4⟩]⟩) (.node (some ⟨61,[(1, .ptr 1 []),(4, .vw 13 []),(15, .val y4),(16, .val y1),(17, .val y1)],[⟨1,true,false, .ro,y0⟩,⟨13,false,false,(.own .ro),y4⟩]⟩) (.node none .nil (.node none .nil (.node none (.node none (.node none .nil (.node none .nil (.node none (.node none .nil (.node none (.node none .nil (.node (some ⟨61,[(1, .ptr 1 []),(4, .vw 13 []),(7, .val y1),(15, .val y4),(16, .val y1),(17, .val y1)],[⟨1,true,false, .ro,y0⟩,⟨13,false,false,(.own .ro),y4⟩]⟩) (.node (some ⟨61,[(1, .ptr 1 []),(4, .vw 13 []),(5, .val y1),(6, .val y1),(7, .val y1),(15, .val y4),(16, .val y1),(17, .val y1),(25, .val y1),(26, .val y1)],[⟨1,true,false, .ro,y0⟩,⟨13,false,false,(.own .ro),y4⟩]⟩) .nil .nil) .nil)) .nil)) .nil))) .nil) .nil))) .nil) .nil)) .nil)))) Go.Proofs.Tryz.f11 .none [y0] y11 2 y7=(S11 N).f:=by kernel_rfl
theorem s11 (N:Nat):Sat Go.Proofs.Tryz.prog 11 (S11 N):=sat_eq (ctx_cons tabs (ctx_cons tabs (ctx_cons tabs (ctx_nil tabs (by kernel_rfl)) (s29 N)) (s28 N)) (s25 N)) Go.Proofs.Tryz.func11 (by kernel_rfl) (by kernel_rfl) (by decide) (by decide) (e11 N)
noncomputable def S11w (N:Nat):Go.Rx.Spec:=⟨.none,[y0],y11,2, .ro,fun _ x=>Px.Q27 N x.1⟩
theorem s11w (N:Nat):Sat Go.Proofs.Tryz.prog 11 (S11w N):=sat_weak (s11 N) (by rfl)
noncomputable def S62 (N:Nat):Go.Rx.Spec:=⟨.none,[y0,y1,y1,y1], .bool,1, .ro,fun _ x=>Px.Q17 N x.1 x.2.1 x.2.2.1 x.2.2.2.1⟩
theorem e62 (N:Nat):evalFn (ctx tab [(60,S60 N),(61,S61 N)]) N .nil Go.Proofs.Tryz.f62 .none [y0,y1,y1,y1] .bool 1 .ro=(S62 N).f:=by kernel_rfl
theorem s62 (N:Nat):Sat Go.Proofs.Tryz.prog 62 (S62 N):=sat_eq (ctx_cons tabs (ctx_cons tabs (ctx_nil tabs (by kernel_rfl)) (s61 N)) (s60 N)) Go.Proofs.Tryz.func62 (by kernel_rfl) (by kernel_rfl) (by decide) (by decide) (e62 N)
noncomputable def S32 (N:Nat):Go.Rx.Spec:=⟨.none,[y0,y1],y4,1,(.own .ro),fun _ x=>Px.Q11 N x.1 x.2.1⟩
theorem e32 (N:Nat):evalFn (ctx tab [(62,S62 N)]) N (.node none .nil (.node none .nil (.node none (.node none .nil (.node (some ⟨44,[(5, .vw 9 [])],[⟨9,false,false,(.own .ro),y4⟩]⟩) (.node (some ⟨44,[(1, .val y1),(2, .ptr 2 []),(5, .vw 9 []),(6, .val y1),(7, .val y1)],[⟨2,true,false, .ro,y0⟩,⟨9,false,false,(.own .ro),y4⟩]⟩) (.node none .nil (.node none (.node none .nil (.node none .nil (.node none .nil (.node none (.node (some ⟨44,[(1, .val y1),(2, .ptr 2 []),(5, .vw 9 []),(6, .val y1),(8, .val y1)],[⟨2,true,false, .ro,y0⟩,⟨9,false,false,(.own .ro),y4⟩]⟩) (.node (some ⟨44,[(1, .val y1),(2, .ptr 2 []),(5, .vw 9 []),(6, .val y1),(7, .val y1),(8, .val y1)],[⟨2,true,false, .ro,y0⟩,⟨9,false,false,(.own .ro),y4⟩]⟩) .nil .nil) .nil) .nil)))) .nil)) .nil) .nil)) .nil))) Go.Proofs.Tryz.f32 .none [y0,y1] y4 1 (.own .ro)=(S32 N).f:=by kernel_rfl
theorem s32 (N:Nat):Sat Go.Proofs.Tryz.prog 32 (S32 N):=sat_eq (ctx_cons tabs (ctx_nil tabs (by kernel_rfl)) (s62 N)) Go.Proofs.Tryz.func32 (by kernel_rfl) (by kernel_rfl) (by decide) (by decide) (e32 N)
noncomputable def S34 (N:Nat):Go.Rx.Spec:=⟨.none,[y0],y4,1,(.own .ro),fun _ x=>Px.Q8 N x.1⟩
theorem e34 (N:Nat):evalFn (ctx tab [(60,S60 N)]) N (.node none .nil (.node none .nil (.node none .nil (.node none (.node none .nil (.node (some ⟨51,[(4, .vw 12 [])],[⟨12,false,false,(.own .ro),y4⟩]⟩) (.node (some ⟨51,[(1, .ptr 1 []),(3, .val y1),(4, .vw 12 []),(5, .val y1)],[⟨1,true,false, .ro,y0⟩,⟨12,false,false,(.own .ro),y4⟩]⟩) (.node none .nil (.node none (.node none (.node none .nil (.node none .nil (.node (some ⟨51,[(1, .ptr 1 []),(3, .val y1),(4, .vw 12 []),(5, .val y1)],[⟨1,true,false, .ro,y0⟩,⟨12,false,false,(.own .ro),y4⟩]⟩) (.node (some ⟨51,[(1, .ptr 1 []),(3, .val y1),(4, .vw 12 []),(5, .val y1),(6, .val y1)],[⟨1,true,false, .ro,y0⟩,⟨12,false,false,(.own .ro),y4⟩]⟩) .nil .nil) .nil))) .nil) .nil)) .nil) .nil)) .nil)))) Go.Proofs.Tryz.f34 .none [y0] y4 1 (.own .ro)=(S34 N).f:=by kernel_rfl
theorem s34 (N:Nat):Sat Go.Proofs.Tryz.prog 34 (S34 N):=sat_eq (ctx_cons tabs (ctx_nil tabs (by kernel_rfl)) (s60 N)) Go.Proofs.Tryz.func34 (by kernel_rfl) (by kernel_rfl) (by decide) (by decide) (e34 N)
noncomputable def S12 (N:Nat):Go.Rx.Spec:=⟨.none,[y0,y1],y13,2, .ro,fun _ x=>Px.Q45 N x.1 x.2.1⟩
theorem e12 (N:Nat):evalFn (ctx tab [(25,S25 N),(30,S30 N),(31,S31 N),(32,S32 N),(33,S33 N),(34,S34 N)]) N .nil Go.Proofs.Tryz.f12 .none [y0,y1] y13 2 .ro=(S12 N).f:=by kernel_rfl
theorem s12 (N:Nat):Sat Go.Proofs.Tryz.prog 12 (S12 N):=sat_eq (ctx_cons tabs (ctx_cons tabs (ctx_cons tabs (ctx_cons tabs (ctx_cons tabs (ctx_cons tabs (ctx_nil tabs (by kernel_rfl)) (s34 N)) (s33 N)) (s32 N)) (s31 N)) (s30 N)) (s25 N)) Go.Proofs.Tryz.func12 (by kernel_rfl) (by kernel_rfl) (by decide) (by decide) (e12 N)
noncomputable def S35 (N:Nat):Go.Rx.Spec:=⟨.none,[y1], .bool,1, .ro,fun _ x=>Px.Q60 N x.1⟩
theorem e35 (N:Nat):evalFn (ctx tab [(30,S30 N)]) N .nil Go.Proofs.Tryz.f35 .none [y1] .bool 1 .ro=(S35 N).f:=by kernel_rfl
theorem s35 (N:Nat):Sat Go.Proofs.Tryz.prog 35 (S35 N):=sat_eq (ctx_cons tabs (ctx_nil tabs (by kernel_rfl)) (s30 N)) Go.Proofs.Tryz.func35 (by kernel_rfl) (by kernel_rfl) (by decide) (by decide) (e35 N)
noncomputable def S95 (N:Nat):Go.Rx.Spec:=⟨.none,[y4,y4],y1,1, .ro,fun _ x=>Px.Q66 N x.1 x.2.1⟩
theorem e95 (N:Nat):evalFn (ctx tab [(59,S59 N)]) N .nil Go.Proofs.Tryz.f95 .none [y4,y4] y1 1 .ro=(S95 N).f:=by kernel_rfl
theorem s95 (N:Nat):Sat Go.Proofs.Tryz.prog 95 (S95 N):=sat_eq (ctx_cons tabs (ctx_nil tabs (by kernel_rfl)) (s59 N)) Go.Proofs.Tryz.func95 (by kernel_rfl) (by kernel_rfl) (by decide) (by decide) (e95 N)
noncomputable def S6226015 (N:Nat):Go.Rx.Spec:=⟨(.«mut» y16 (.own .ro) (.own .ro)),[], .bool,0, .ro,fun g _=>Px.slices_SortFunc_int_int__impl_sets_1 N g⟩
theorem s6226015 (N:Nat):SatT Go.Proofs.Tryz.prog 94 (some 95) (S6226015 N):=sat_sortSets Go.Proofs.Tryz.func94 (by kernel_rfl) (by kernel_rfl) sort_none sort_total sort_less
noncomputable def S64 (N:Nat):Go.Rx.Spec:=⟨.none,[y1],y16,1,(.own .ro),fun _ x=>Px.Q65 N x.1⟩
theorem e64 (N:Nat):evalFn (ctxF tab [(95,S95 N),(6226015,S6226015 N)] [30]) N (.node none .nil (.node none .nil (.node none (.node none .nil (.node (some ⟨36,[(3, .vw 7 [])],[⟨7,false,false,(.own .ro),y16⟩]⟩) (.node (some ⟨36,[(0, .val y1),(3, .vw 7 []),(9, .val y1),(10, .val y1)],[⟨7,false,false,(.own .ro),y16⟩]⟩) (.node none .nil (.node none .nil (.node none (.node none (.node none .nil (.node none .nil (.node none (.node none .nil (.node (some ⟨36,[(0, .val y1),(3, .vw 7 []),(5, .vw 13 []),(9, .val y1),(10, .val y1)],[⟨7,false,false,(.own .ro),y16⟩,⟨13,false,false,(.own .ro),y4⟩]⟩) (.node (some ⟨36,[(0, .val y1),(3, .vw 7 []),(4, .val y1),(5, .vw 13 []),(9, .val y1),(10, .val y1),(14, .val y1),(15, .val y1)],[⟨7,false,false,(.own .ro),y16⟩,⟨13,false,false,(.own .ro),y4⟩]⟩) .nil .nil) .nil)) .nil))) .nil) .nil))) .nil) .nil)) .nil))) Go.Proofs.Tryz.f64 .none [y1] y16 1 (.own .ro)=(S64 N).f:=by kernel_rfl
theorem s64 (N:Nat):Sat Go.Proofs.Tryz.prog 64 (S64 N):=sat_eq (ctxF_ok (ctx_cons tabs (ctx_consT tabs (ctx_nil tabs (by kernel_rfl)) (s6226015 N)) (s95 N)) _) Go.Proofs.Tryz.func64 (by kernel_rfl) (by kernel_rfl) (by decide) (by decide) (e64 N)
noncomputable def S65 (N:Nat):Go.Rx.Spec:=⟨.none,[y0,y1,y4],y13,2, .ro,fun _ x=>Px.Q16 N x.1 x.2.1 x.2.2.1⟩
theorem e65 (N:Nat):evalFn (ctx tab [(28,S28 N),(30,S30 N)]) N (.node none .nil (.node none .nil (.node none (.node none .nil (.node (some ⟨69,[(1, .val y1),(2, .val y4),(3, .ptr 3 []),(8, .val y1)],[⟨3,true,false, .ro,y0⟩]⟩) (.node (some ⟨69,[(1, .val y1),(2, .val y4),(3, .ptr 3 []),(8, .val y1),(16, .val y4),(17, .val y1),(18, .val y1)],[⟨3,true,false, .ro,y0⟩]⟩) .nil .nil) .nil)) (.node none (.node none .nil (.node (some ⟨69,[(8, .val y1)],[]⟩) (.node (some ⟨69,[(1, .val y1),(2, .val y4),(3, .ptr 3 []),(8, .val y1),(31, .val y4),(32, .val y1),(33, .val y1)],[⟨3,true,false, .ro,y0⟩]⟩) (.node none .nil (.node none .nil (.node none (.node none (.node none .nil (.node none .nil (.node none (.node none .nil (.node (some ⟨69,[(1, .val y1),(2, .val y4),(3, .ptr 3 []),(8, .val y1),(12, .val y1),(13, .val y1),(31, .val y4),(32, .val y1),(33, .val y1)],[⟨3,true,false, .ro,y0⟩]⟩) (.node (some ⟨69,[(1, .val y1),(2, .val y4),(3, .ptr 3 []),(8, .val y1),(11, .val y1),(12, .val y1),(13, .val y1),(31, .val y4),(32, .val y1),(33, .val y1),(38, .val y4),(39, .val y1),(40, .val y1)],[⟨3,true,false, .ro,y0⟩]⟩) .nil .nil) .nil)) .nil))) .nil) .nil))) .nil) .nil)) .nil)))) Go.Proofs.Tryz.f65 .none [y0,y1,y4] y13 2 .ro=(S65 N).f:=by kernel_rfl
theorem s65 (N:Nat):Sat Go.Proofs.Tryz.prog 65 (S65 N):=sat_eq (ctx_cons tabs (ctx_cons tabs (ctx_nil tabs (by kernel_rfl)) (s30 N)) (s28 N)) Go.Proofs.Tryz.func65 (by kernel_rfl) (by kernel_rfl) (by decide) (by decide) (e65 N)
noncomputable def S36 (N:Nat):Go.Rx.Spec:=⟨.none,[y0,y1],(.prod y4 y1),2, .ro,fun _ x=>Px.Q10 N x.1 x.2.1⟩
theorem e36 (N:Nat):evalFn (ctx tab [(64,S64 N),(65,S65 N)]) N (.node none .nil (.node none .nil (.node none (.node none .nil (.node (some ⟨40,[(6, .val y4),(7, .val y1)],[]⟩) (.node (some ⟨40,[(1, .val y1),(2, .ptr 2 []),(6, .val y4),(7, .val y1),(16, .vw 16 []),(17, .val y1),(18, .val y1)],[⟨2,true,false, .ro,y0⟩,⟨16,false,false,(.own .ro),y16⟩]⟩) (.node none .nil (.node none .nil (.node none (.node (some ⟨40,[(1, .val y1),(2, .ptr 2 []),(6, .val y4),(7, .val y1),(16, .vw 16 []),(17, .val y1),(18, .val y1)],[⟨2,true,false, .ro,y0⟩,⟨16,false,false,(.own .ro),y16⟩]⟩) .nil .nil) .nil))) .nil) .nil)) .nil))) Go.Proofs.Tryz.f36 .none [y0,y1] (.prod y4 y1) 2 .ro=(S36 N).f:=by kernel_rfl
theorem s36 (N:Nat):Sat Go.Proofs.Tryz.prog 36 (S36 N):=sat_eq (ctx_cons tabs (ctx_cons tabs (ctx_nil tabs (by kernel_rfl)) (s65 N)) (s64 N)) Go.Proofs.Tryz.func36 (by kernel_rfl) (by kernel_rfl) (by decide) (by decide) (e36 N)
noncomputable def S13 (N:Nat):Go.Rx.Spec:=⟨.none,[y0,y1],(.prod y4 y13),3, .ro,fun _ x=>Px.Q6 N x.1 x.2.1⟩
theorem e13 (N:Nat):evalFn (ctx tab [(25,S25 N),(35,S35 N),(36,S36 N)]) N .nil Go.Proofs.Tryz.f13 .none [y0,y1] (.prod y4 y13) 3 .ro=(S13 N).f:=by kernel_rfl
theorem s13 (N:Nat):Sat Go.Proofs.Tryz.prog 13 (S13 N):=sat_eq (ctx_cons tabs (ctx_cons tabs (ctx_cons tabs (ctx_nil tabs (by kernel_rfl)) (s36 N)) (s35 N)) (s25 N)) Go.Proofs.Tryz.func13 (by kernel_rfl) (by kernel_rfl) (by decide) (by decide) (e13 N)
noncomputable def S38 (N:Nat):Go.Rx.Spec:=⟨.none,[y2,y1,y1],y1,1, .ro,fun _ x=>Px.Q37 N x.1 x.2.1 x.2.2.1⟩
theorem e38 (N:Nat):evalFn (ctx tab [(43,S43 N)]) N (.node none .nil (.node none .nil (.node none (.node none .nil (.node (some ⟨56,[(7, .val y1)],[]⟩) (.node (some ⟨56,[(2, .val y1),(3, .ptr 3 []),(7, .val y1),(8, .val y1)],[⟨3,true,false, .ro,y2⟩]⟩) (.node none .nil (.node none (.node none (.node none (.node none .nil (.node (some ⟨56,[(2, .val y1),(3, .ptr 3 []),(7, .val y1),(8, .val y1)],[⟨3,true,false, .ro,y2⟩]⟩) .nil .nil)) .nil) .nil) .nil)) .nil) .nil)) .nil))) Go.Proofs.Tryz.f38 .none [y2,y1,y1] y1 1 .ro=(S38 N).f:=by kernel_rfl
theorem s38 (N:Nat):Sat Go.Proofs.Tryz.prog 38 (S38 N):=sat_eq (ctx_cons tabs (ctx_nil tabs (by kernel_rfl)) (s43 N)) Go.Proofs.Tryz.func38 (by kernel_rfl) (by kernel_rfl) (by decide) (by decide) (e38 N)
noncomputable def S14 (N:Nat):Go.Rx.Spec:=⟨.none,[y2],y13,2, .ro,fun _ x=>Px.Q23 N x.1⟩
theorem e14 (N:Nat):evalFn (ctx tab [(18,S18 N),(37,S37 N),(38,S38 N)]) N .nil Go.Proofs.Tryz.f14 .none [y2] y13 2 .ro=(S14 N).f:=by kernel_rfl
theorem s14 (N:Nat):Sat Go.Proofs.Tryz.prog 14 (S14 N):=sat_eq (ctx_cons tabs (ctx_cons tabs (ctx_cons tabs (ctx_nil tabs (by kernel_rfl)) (s38 N)) (s37 N)) (s18 N)) Go.Proofs.Tryz.func14 (by kernel_rfl) (by kernel_rfl) (by decide) (by decide) (e14 N)
noncomputable def S86 (N:Nat):Go.Rx.Spec:=⟨.none,[y0,y1],y11,2,y7,fun _ x=>Px.Q46 N x.1 x.2.1⟩
theorem e86 (N:Nat):evalFn (ctx tab [(25,S25 N),(30,S30 N),(32,S32 N)]) N .nil Go.Proofs.Tryz.f86 .none [y0,y1] y11 2 y7=(S86 N).f:=by kernel_rfl
theorem s86 (N:Nat):Sat Go.Proofs.Tryz.prog 86 (S86 N):=sat_eq (ctx_cons tabs (ctx_cons tabs (ctx_cons tabs (ctx_nil tabs (by kernel_rfl)) (s32 N)) (s30 N)) (s25 N)) Go.Proofs.Tryz.func86 (by kernel_rfl) (by kernel_rfl) (by decide) (by decide) (e86 N)
noncomputable def S87 (N:Nat):Go.Rx.Spec:=⟨.none,[y2],y13,2, .ro,fun _ x=>Px.Q24 N x.1⟩
theorem e87 (N:Nat):evalFn (ctx tab [(18,S18 N),(38,S38 N)]) N .nil Go.Proofs.Tryz.f87 .none [y2] y13 2 .ro=(S87 N).f:=by kernel_rfl
theorem s87 (N:Nat):Sat Go.Proofs.Tryz.prog 87 (S87 N):=sat_eq (ctx_cons tabs (ctx_cons tabs (ctx_nil tabs (by kernel_rfl)) (s38 N)) (s18 N)) Go.Proofs.Tryz.func87 (by kernel_rfl) (by kernel_rfl) (by decide) (by decide) (e87 N)
noncomputable def S88 (N:Nat):Go.Rx.Spec:=⟨.none,[y2],y11,2,y7,fun _ x=>Px.Q42 N x.1⟩
theorem e88 (N:Nat):evalFn (ctx tab [(18,S18 N),(117,S117 N)]) N .nil Go.Proofs.Tryz.f88 .none [y2] y11 2 y7=(S88 N).f:=by kernel_rfl
theorem s88 (N:Nat):Sat Go.Proofs.Tryz.prog 88 (S88 N):=sat_eq (ctx_cons tabs (ctx_cons tabs (ctx_nil tabs (by kernel_rfl)) (s117 N)) (s18 N)) Go.Proofs.Tryz.func88 (by kernel_rfl) (by kernel_rfl) (by decide) (by decide) (e88 N)
noncomputable def S147 (N:Nat):Go.Rx.Spec:=⟨.none,[y4, .str], .str,1, .ro,fun _ x=>Px.Q57 N x.1 x.2.1⟩
theorem e147 (N:Nat):evalFn (ctx tab [(66,S66 N),(68,S68 N)]) N (.node none .nil (.node none .nil (.node none (.node none .nil (.node (some ⟨24,[(1, .val .str),(5, .vw 8 [])],[⟨8,false,false,(.own .ro),y12⟩]⟩) (.node (some ⟨24,[(1, .val .str),(5, .vw 8 []),(9, .val y4),(10, .val y1),(11, .val y1)],[⟨8,false,false,(.own .ro),y12⟩]⟩) .nil .nil) .nil)) .nil))) Go.Proofs.Tryz.f147 .none [y4, .str] .str 1 .ro=(S147 N).f:=by kernel_rfl
theorem s147 (N:Nat):Sat Go.Proofs.Tryz.prog 147 (S147 N):=sat_eq (ctx_cons tabs (ctx_cons tabs (ctx_nil tabs (by kernel_rfl)) (s68 N)) (s66 N)) Go.Proofs.Tryz.func147 (by kernel_rfl) (by kernel_rfl) (by decide) (by decide) (e147 N)
noncomputable def S118 (N:Nat):Go.Rx.Spec:=⟨.none,[y0], .str,1, .ro,fun _ x=>Px.Q54 N x.1⟩
theorem e118 (N:Nat):evalFn (ctx tab [(68,S68 N),(147,S147 N)]) N (.node none .nil (.node none .nil (.node none (.node none .nil (.node (some ⟨42,[(3, .vw 6 [])],[⟨6,false,false,(.own .ro),y12⟩]⟩) (.node (some ⟨42,[(1, .ptr 1 []),(3, .vw 6 []),(8, .val y4),(9, .val y1),(10, .val y1)],[⟨1,true,false, .ro,y0⟩,⟨6,false,false,(.own .ro),y12⟩]⟩) .nil .nil) .nil)) .nil))) Go.Proofs.Tryz.f118 .none [y0] .str 1 .ro=(S118 N).f:=by kernel_rfl
theorem s118 (N:Nat):Sat Go.Proofs.Tryz.prog 118 (S118 N):=sat_eq (ctx_cons tabs (ctx_cons tabs (ctx_nil tabs (by kernel_rfl)) (s147 N)) (s68 N)) Go.Proofs.Tryz.func118 (by kernel_rfl) (by kernel_rfl) (by decide) (by decide) (e118 N)
noncomputable def S89 (N:Nat):Go.Rx.Spec:=⟨.none,[y0],y9,2, .ro,fun _ x=>Px.Q7 N x.1⟩
theorem e89 (N:Nat):evalFn (ctx tab [(25,S25 N),(118,S118 N)]) N .nil Go.Proofs.Tryz.f89 .none [y0] y9 2 .ro=(S89 N).f:=by kernel_rfl
theorem s89 (N:Nat):Sat Go.Proofs.Tryz.prog 89 (S89 N):=sat_eq (ctx_cons tabs (ctx_cons tabs (ctx_nil tabs (by kernel_rfl)) (s118 N)) (s25 N)) Go.Proofs.Tryz.func89 (by kernel_rfl) (by kernel_rfl) (by decide) (by decide) (e89 N)
noncomputable def S90 (N:Nat):Go.Rx.Spec:=⟨.none,[y0],y11,2,y7,fun _ x=>Px.Q49 N x.1⟩
theorem e90 (N:Nat):evalFn (ctx tab [(25,S25 N),(27,S27 N),(34,S34 N)]) N (.node none .nil (.node none .nil (.node none .nil (.node none (.node none .nil (.node (some ⟨40,[(4, .vw 12 [])],[⟨12,false,false,(.own .ro),y4⟩]⟩) (.node (some ⟨40,[(4, .vw 12 []),(6, .vw 16 []),(17, .vw 14 []),(18, .val y1),(19, .val y1)],[⟨12,false,false,(.own .ro),y4⟩,⟨16,false,false,(.own .ro),y4⟩,⟨14,false,false,(.own .ro),y4⟩]⟩) .nil .nil) .nil)) .nil)))) Go.Proofs.Tryz.f90 .none [y0] y11 2 y7=(S90 N).f:=by kernel_rfl
theorem s90 (N:Nat):Sat Go.Proofs.Tryz.prog 90 (S90 N):=sat_eq (ctx_cons tabs (ctx_cons tabs (ctx_cons tabs (ctx_nil tabs (by kernel_rfl)) (s34 N)) (s27 N)) (s25 N)) Go.Proofs.Tryz.func90 (by kernel_rfl) (by kernel_rfl) (by decide) (by decide) (e90 N)
noncomputable def S119 (N:Nat):Go.Rx.Spec:=⟨.none,[y0],y4,1,(.own .ro),fun _ x=>Px.Q18 N x.1⟩
theorem e119 (N:Nat):evalFn (ctx tab [(27,S27 N),(60,S60 N)]) N (.node none .nil (.node none .nil (.node none (.node none .nil (.node (some ⟨39,[(3, .vw 7 [])],[⟨7,false,false,(.own .ro),y4⟩]⟩) (.node (some ⟨39,[(1, .ptr 1 []),(3, .vw 7 []),(4, .vw 9 []),(5, .val y1)],[⟨1,true,false, .ro,y0⟩,⟨7,false,false,(.own .ro),y4⟩,⟨9,false,false,(.own .ro),y4⟩]⟩) (.node none .nil (.node none (.node none (.node none .nil (.node none (.node (some ⟨39,[(1, .ptr 1 []),(3, .vw 7 []),(4, .vw 9 []),(5, .val y1),(6, .val y1)],[⟨1,true,false, .ro,y0⟩,⟨7,false,false,(.own .ro),y4⟩,⟨9,false,false,(.own .ro),y4⟩]⟩) (.node (some ⟨39,[(1, .ptr 1 []),(3, .vw 7 []),(4, .vw 9 []),(5, .val y1),(6, .val y1)],[⟨1,true,false, .ro,y0⟩,⟨7,false,false,(.own .ro),y4⟩,⟨9,false,false,(.own .ro),y4⟩]⟩) .nil .nil) .nil) .nil)) .nil) .nil)) .nil) .nil)) .nil))) Go.Proofs.Tryz.f119 .none [y0] y4 1 (.own .ro)=(S119 N).f:=by kernel_rfl
theorem s119 (N:Nat):Sat Go.Proofs.Tryz.prog 119 (S119 N):=sat_eq (ctx_cons tabs (ctx_cons tabs (ctx_nil tabs (by kernel_rfl)) (s60 N)) (s27 N)) Go.Proofs.Tryz.func119 (by kernel_rfl) (by kernel_rfl) (by decide) (by decide) (e119 N)
noncomputable def S91 (N:Nat):Go.Rx.Spec:=⟨.none,[y0],y11,2,y7,fun _ x=>Px.Q30 N x.1⟩
theorem e91 (N:Nat):evalFn (ctx tab [(25,S25 N),(119,S119 N)]) N (.node none .nil (.node none .nil (.node none .nil (.node none (.node none .nil (.node (some ⟨37,[(4, .vw 10 [])],[⟨10,false,false,(.own .ro),y4⟩]⟩) (.node (some ⟨37,[(1, .ptr 1 []),(4, .vw 10 []),(12, .vw 12 []),(13, .val y1),(14, .val y1)],[⟨1,true,false, .ro,y0⟩,⟨10,false,false,(.own .ro),y4⟩,⟨12,false,false,(.own .ro),y4⟩]⟩) .nil .nil) .nil)) .nil)))) Go.Proofs.Tryz.f91 .none [y0] y11 2 y7=(S91 N).f:=by kernel_rfl
theorem s91 (N:Nat):Sat Go.Proofs.Tryz.prog 91 (S91 N):=sat_eq (ctx_cons tabs (ctx_cons tabs (ctx_nil tabs (by kernel_rfl)) (s119 N)) (s25 N)) Go.Proofs.Tryz.func91 (by kernel_rfl) (by kernel_rfl) (by decide) (by decide) (e91 N)
noncomputable def S56 (N:Nat):Go.Rx.Spec:=⟨.none,[y2, .str,y4],y9,2, .ro,fun _ x=>Px.Q53 N x.1 x.2.1 x.2.2.1⟩
theorem e56 (N:Nat):evalFn (ctx tab [(9,S9 N),(10,S10 N),(11,S11 N),(12,S12 N),(13,S13 N),(14,S14 N),(82,S82 N),(83,S83 N),(84,S84 N),(85,S85 N),(86,S86 N),(87,S87 N),(88,S88 N),(89,S89 N),(90,S90 N),(91,S91 N)]) N (.node none .nil (.node none (.node none .nil (.node (some ⟨178,[(1, .val .str),(2, .val y4),(3, .ptr 3 [])],[⟨3,true,false, .ro,y2⟩]⟩) .nil .nil)) .nil)) Go.Proofs.Tryz.f56 .none [y2, .str,y4] y9 2 .ro=(S56 N).f:=by kernel_rfl
theorem s56 (N:Nat):Sat Go.Proofs.Tryz.prog 56 (S56 N):=sat_eq (ctx_cons tabs (ctx_cons tabs (ctx_cons tabs (ctx_cons tabs (ctx_cons tabs (ctx_cons tabs (ctx_cons tabs (ctx_cons tabs (ctx_cons tabs (ctx_cons tabs (ctx_cons tabs (ctx_cons tabs (ctx_cons tabs (ctx_cons tabs (ctx_cons tabs (ctx_cons tabs (ctx_nil tabs (by kernel_rfl)) (s91 N)) (s90 N)) (s89 N)) (s88 N)) (s87 N)) (s86 N)) (s85 N)) (s84 N)) (s83 N)) (s82 N)) (s14 N)) (s13 N)) (s12 N)) (s11 N)) (s10 N)) (s9 N)) Go.Proofs.Tryz.func56 (by kernel_rfl) (by kernel_rfl) (by decide) (by decide) (e56 N)
noncomputable def S23 (N:Nat):Go.Rx.Spec:=⟨.none,[y2, .str],(.prod y2 .str),2, .ro,fun _ x=>Px.Q58 N x.1 x.2.1⟩
theorem e23 (N:Nat):evalFn (ctx tab [(51,S51 N),(52,S52 N),(53,S53 N),(54,S54 N),(55,S55 N),(56,S56 N)]) N (.node none .nil (.node none .nil (.node none (.node none .nil (.node (some ⟨84,[(2, .ptr 2 []),(4, .ptr 4 []),(6, .val y12),(7, .vw 22 [])],[⟨2,true,false, .ro,y2⟩,⟨4,true,false,y10,y2⟩,⟨22,false,false,(.own .ro),y4⟩]⟩) (.node (some ⟨84,[(2, .ptr 2 []),(4, .ptr 4 []),(6, .val y12),(7, .vw 22 []),(24, .val y12),(25, .val y1),(26, .val y1)],[⟨2,true,false, .ro,y2⟩,⟨4,true,false,y10,y2⟩,⟨22,false,false,(.own .ro),y4⟩]⟩) .nil .nil) .nil)) .nil))) Go.Proofs.Tryz.f23 .none [y2, .str] (.prod y2 .str) 2 .ro=(S23 N).f:=by kernel_rfl
theorem s23 (N:Nat):Sat Go.Proofs.Tryz.prog 23 (S23 N):=sat_eq (ctx_cons tabs (ctx_cons tabs (ctx_cons tabs (ctx_cons tabs (ctx_cons tabs (ctx_cons tabs (ctx_nil tabs (by kernel_rfl)) (s56 N)) (s55 N)) (s54 N)) (s53 N)) (s52 N)) (s51 N)) Go.Proofs.Tryz.func23 (by kernel_rfl) (by kernel_rfl) (by decide) (by decide) (e23 N)
noncomputable def S24 (N:Nat):Go.Rx.Spec:=⟨.none,[y8,y15],(.prod y8 y1),2, .ro,fun _ x=>Px.Q4 N x.1 x.2.1⟩
theorem e24 (N:Nat):evalFn (ctx tab [(49,S49 N),(57,S57 N),(58,S58 N)]) N .nil Go.Proofs.Tryz.f24 .none [y8,y15] (.prod y8 y1) 2 .ro=(S24 N).f:=by kernel_rfl
theorem s24 (N:Nat):Sat Go.Proofs.Tryz.prog 24 (S24 N):=sat_eq (ctx_cons tabs (ctx_cons tabs (ctx_cons tabs (ctx_nil tabs (by kernel_rfl)) (s58 N)) (s57 N)) (s49 N)) Go.Proofs.Tryz.func24 (by kernel_rfl) (by kernel_rfl) (by decide) (by decide) (e24 N)
noncomputable def S8 (N:Nat):Go.Rx.Spec:=⟨.none,[(.prod y2 y8), .str],(.prod (.prod y2 y8) .str),2, .ro,fun _ x=>Px.Q26 N x.1 x.2.1⟩
theorem e8 (N:Nat):evalFn (ctx tab [(19,S19w N),(21,S21 N),(22,S22 N),(23,S23 N),(24,S24 N)]) N .nil Go.Proofs.Tryz.f8 .none [(.prod y2 y8), .str] (.prod (.prod y2 y8) .str) 2 .ro=(S8 N).f:=by kernel_rfl
theorem s8 (N:Nat):Sat Go.Proofs.Tryz.prog 8 (S8 N):=sat_eq (ctx_cons tabs (ctx_cons tabs (ctx_cons tabs (ctx_cons tabs (ctx_cons tabs (ctx_nil tabs (by kernel_rfl)) (s24 N)) (s23 N)) (s22 N)) (s21 N)) (s19w N)) Go.Proofs.Tryz.func8 (by kernel_rfl) (by kernel_rfl) (by decide) (by decide) (e8 N)
noncomputable def S15 (N:Nat):Go.Rx.Spec:=⟨.none,[y1, .bool], .str,1, .ro,fun _ x=>Px.Q70 N x.1 x.2.1⟩
theorem e15 (N:Nat):evalFn (ctx tab [(39,S39 N)]) N .nil Go.Proofs.Tryz.f15 .none [y1, .bool] .str 1 .ro=(S15 N).f:=by kernel_rfl
theorem s15 (N:Nat):Sat Go.Proofs.Tryz.prog 15 (S15 N):=sat_eq (ctx_cons tabs (ctx_nil tabs (by kernel_rfl)) (s39 N)) Go.Proofs.Tryz.func15 (by kernel_rfl) (by kernel_rfl) (by decide) (by decide) (e15 N)
noncomputable def S40 (N:Nat):Go.Rx.Spec:=⟨.none,[y12, .str],y9,2, .ro,fun _ x=>Px.Q36 N x.1 x.2.1⟩
theorem e40 (N:Nat):evalFn (ctx tab [(67,S67 N),(68,S68 N)]) N (.node none .nil (.node none .nil (.node none .nil (.node none (.node none .nil (.node (some ⟨41,[(0, .val y12),(1, .val .str)],[]⟩) (.node (some ⟨41,[(0, .val y12),(1, .val .str),(6, .val y1),(20, .val y12),(21, .val y1),(22, .val y1)],[]⟩) .nil .nil) .nil)) .nil)))) Go.Proofs.Tryz.f40 .none [y12, .str] y9 2 .ro=(S40 N).f:=by kernel_rfl
theorem s40 (N:Nat):Sat Go.Proofs.Tryz.prog 40 (S40 N):=sat_eq (ctx_cons tabs (ctx_cons tabs (ctx_nil tabs (by kernel_rfl)) (s68 N)) (s67 N)) Go.Proofs.Tryz.func40 (by kernel_rfl) (by kernel_rfl) (by decide) (by decide) (e40 N)
noncomputable def S16 (N:Nat):Go.Rx.Spec:=⟨.none,[y4, .bool], .str,1, .ro,fun _ x=>Px.Q71 N x.1 x.2.1⟩
theorem e16 (N:Nat):evalFn (ctx tab [(15,S15 N),(40,S40 N)]) N (.node none .nil (.node none .nil (.node none .nil (.node none (.node none .nil (.node (some ⟨35,[(5, .vw 11 [])],[⟨11,false,false,(.own .ro),y12⟩]⟩) (.node (some ⟨35,[(0, .val y4),(5, .vw 11 []),(6, .val y1)],[⟨11,false,false,(.own .ro),y12⟩]⟩) .nil .nil) .nil)) .nil)))) Go.Proofs.Tryz.f16 .none [y4, .bool] .str 1 .ro=(S16 N).f:=by kernel_rfl
theorem s16 (N:Nat):Sat Go.Proofs.Tryz.prog 16 (S16 N):=sat_eq (ctx_cons tabs (ctx_cons tabs (ctx_nil tabs (by kernel_rfl)) (s40 N)) (s15 N)) Go.Proofs.Tryz.func16 (by kernel_rfl) (by kernel_rfl) (by decide) (by decide) (e16 N)
noncomputable def S3 (N:Nat):Go.Rx.Spec:=⟨.none,[y14], .bool,1, .ro,fun _ x=>Px.laws_FnConsoleLots N x.1⟩
theorem e3 (N:Nat):evalFn (ctx tab [(4,S4 N),(5,S5w N),(6,S6w N),(7,S7 N),(8,S8 N),(9,S9 N),(10,S10w N),(11,S11w N),(12,S12 N),(13,S13 N),(14,S14 N),(15,S15 N),(16,S16 N)]) N .nil Go.Proofs.Tryz.f3 .none [y14] .bool 1 .ro=(S3 N).f:=by kernel_rfl
theorem s3 (N:Nat):Sat Go.Proofs.Tryz.prog 3 (S3 N):=sat_eq (ctx_cons tabs (ctx_cons tabs (ctx_cons tabs (ctx_cons tabs (ctx_cons tabs (ctx_cons tabs (ctx_cons tabs (ctx_cons tabs (ctx_cons tabs (ctx_cons tabs (ctx_cons tabs (ctx_cons tabs (ctx_cons tabs (ctx_nil tabs (by kernel_rfl)) (s16 N)) (s15 N)) (s14 N)) (s13 N)) (s12 N)) (s11w N)) (s10w N)) (s9 N)) (s8 N)) (s7 N)) (s6w N)) (s5w N)) (s4 N)) Go.Proofs.Tryz.func3 (by kernel_rfl) (by kernel_rfl) (by decide) (by decide) (e3 N)
end Go.Proofs.YtndjcefmaakbgaaGreatDoor.RsFnConsoleLots
