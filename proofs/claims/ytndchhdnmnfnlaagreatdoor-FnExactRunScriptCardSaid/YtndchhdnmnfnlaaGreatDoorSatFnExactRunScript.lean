/- This text proves that the Go functions behind FnExactRunScript compute the plain functions; no condition. -/
import Derived.Test.YtndchhdnmnfnlaaGreatDoorProg
import Derived.Test.YtndchhdnmnfnlaaGreatDoorPxFnExactRunScript
import Derived.Test.YtndchhdnmnfnlaaGreatDoorLayFnExactRunScript
import Derived.Test.YtndchhdnmnfnlaaGreatDoorWlkFnExactRunScript
import Derived.Test.YtndchhdnmnfnlaaGreatDoorActFnExactRunScript
set_option linter.unusedVariables false
set_option linter.unusedSimpArgs false
namespace Go.Proofs.YtndchhdnmnfnlaaGreatDoor.RsFnExactRunScript
open Go.Rx
open Go.Proofs.YtndchhdnmnfnlaaGreatDoor.WkFnExactRunScript
def tab:List (Nat×TI):=[
 (2,⟨(.int .i64),0,8⟩),
 (3,⟨(.int .i64),0,8⟩),
 (4,⟨.bool,0,1⟩),
 (5,⟨(.int .u8),0,1⟩),
 (6,⟨(.int .u8),0,1⟩),
 (7,⟨(.prod (.int .i64) (.prod (.int .i64) (.prod .bool (.int .u8)))),4,24⟩),
 (8,⟨(.prod (.int .i64) (.prod (.int .i64) (.prod .bool (.int .u8)))),4,24⟩),
 (9,⟨.str,0,16⟩),
 (10,⟨.str,0,16⟩),
 (11,⟨.str,0,16⟩),
 (12,⟨(.int .u64),0,8⟩),
 (20,⟨.err,0,16⟩),
 (21,⟨(.int .i32),0,4⟩),
 (22,⟨(.slice 3 (.int .i64)),0,24⟩),
 (23,⟨(.prod (.slice 3 (.int .i64)) (.prod (.slice 3 (.int .i64)) (.prod (.slice 3 (.int .i64)) (.slice 3 (.int .i64))))),4,96⟩),
 (24,⟨(.prod (.slice 3 (.int .i64)) (.prod (.slice 3 (.int .i64)) (.prod (.slice 3 (.int .i64)) (.slice 3 (.int .i64))))),4,96⟩),
 (25,⟨(.prod (.prod (.slice 3 (.int .i64)) (.prod (.slice 3 (.int .i64)) (.prod (.slice 3 (.int .i64)) (.slice 3 (.int .i64))))) (.prod (.slice 3 (.int .i64)) (.int .i64))),3,128⟩),
 (26,⟨(.prod (.prod (.slice 3 (.int .i64)) (.prod (.slice 3 (.int .i64)) (.prod (.slice 3 (.int .i64)) (.slice 3 (.int .i64))))) (.prod (.slice 3 (.int .i64)) (.int .i64))),3,128⟩),
 (27,⟨(.prod .str (.prod .str (.int .i64))),3,40⟩),
 (28,⟨(.prod .str (.prod .str (.int .i64))),3,40⟩),
 (33,⟨(.prod (.slice 3 (.int .i64)) (.prod (.slice 3 (.int .i64)) (.prod (.slice 3 (.int .i64)) (.slice 3 (.int .i64))))),4,96⟩),
 (34,⟨(.prod (.prod (.slice 3 (.int .i64)) (.prod (.slice 3 (.int .i64)) (.prod (.slice 3 (.int .i64)) (.slice 3 (.int .i64))))) (.prod (.slice 3 (.int .i64)) (.int .i64))),3,128⟩),
 (35,⟨(.prod (.prod (.slice 3 (.int .i64)) (.prod (.slice 3 (.int .i64)) (.prod (.slice 3 (.int .i64)) (.slice 3 (.int .i64))))) (.prod (.slice 3 (.int .i64)) (.int .i64))),3,128⟩),
 (37,⟨(.prod .str (.prod .str (.int .i64))),3,40⟩),
 (41,⟨(.prod (.prod (.prod (.slice 3 (.int .i64)) (.prod (.slice 3 (.int .i64)) (.prod (.slice 3 (.int .i64)) (.slice 3 (.int .i64))))) (.prod (.slice 3 (.int .i64)) (.int .i64))) (.prod .str (.prod .str (.int .i64)))),2,168⟩),
 (42,⟨(.prod (.prod (.prod (.slice 3 (.int .i64)) (.prod (.slice 3 (.int .i64)) (.prod (.slice 3 (.int .i64)) (.slice 3 (.int .i64))))) (.prod (.slice 3 (.int .i64)) (.int .i64))) (.prod .str (.prod .str (.int .i64)))),2,168⟩),
 (44,⟨(.prod (.prod (.prod (.slice 3 (.int .i64)) (.prod (.slice 3 (.int .i64)) (.prod (.slice 3 (.int .i64)) (.slice 3 (.int .i64))))) (.prod (.slice 3 (.int .i64)) (.int .i64))) (.prod .str (.prod .str (.int .i64)))),2,168⟩),
 (45,⟨(.prod (.prod (.prod (.slice 3 (.int .i64)) (.prod (.slice 3 (.int .i64)) (.prod (.slice 3 (.int .i64)) (.slice 3 (.int .i64))))) (.prod (.slice 3 (.int .i64)) (.int .i64))) (.prod .str (.prod .str (.int .i64)))),2,168⟩),
 (52,⟨(.slice 9 .str),0,24⟩),
 (57,⟨(.slice 5 (.int .u8)),0,24⟩),
 (66,⟨(.slice 70 (.prod .str .str)),0,24⟩),
 (69,⟨(.prod .str .str),2,32⟩),
 (70,⟨(.prod .str .str),2,32⟩),
 (98,⟨(.int .u64),0,8⟩),
 (99,⟨(.prod (.slice 5 (.int .u8)) (.prod (.int .i64) (.int .u64))),3,40⟩),
 (100,⟨(.prod (.slice 5 (.int .u8)) (.prod (.int .i64) (.int .u64))),3,40⟩),
 (118,⟨(.prod (.int .i64) (.prod (.int .i64) (.prod (.int .i64) (.prod (.int .i64) (.int .i64))))),5,40⟩),
 (119,⟨(.prod (.int .i64) (.prod (.int .i64) (.prod (.int .i64) (.prod (.int .i64) (.int .i64))))),5,40⟩),
 (156,⟨.err,0,16⟩),
 (157,⟨.err,0,16⟩),
 (161,⟨(.arr 7 (.int .i64)),0,56⟩),
 (162,⟨(.arr 4 (.int .i64)),0,32⟩),
 (175,⟨(.int .u64),0,8⟩),
 (209,⟨(.arr 3 (.int .i64)),0,24⟩),
 (215,⟨(.arr 256 .bool),0,256⟩),
 (216,⟨(.arr 256 .bool),0,256⟩),
 (220,⟨(.int .i64),0,8⟩),
 (234,⟨(.slice 22 (.slice 3 (.int .i64))),0,24⟩),
 (246,⟨(.prod .str (.prod .str .err)),3,48⟩),
 (247,⟨(.prod .str (.prod .str .err)),3,48⟩),
 (249,⟨(.arr 24 (.int .u8)),0,24⟩),
 (256,⟨(.arr 256 (.int .u8)),0,256⟩),
 (257,⟨(.prod (.int .u8) (.int .u8)),2,2⟩),
 (258,⟨(.prod (.int .u8) (.int .u8)),2,2⟩),
 (259,⟨(.arr 16 (.prod (.int .u8) (.int .u8))),0,32⟩),
 (260,⟨(.int .u32),0,4⟩),
 (269,⟨(.arr 20 (.int .u64)),0,160⟩),
 (270,⟨(.arr 65 (.int .u8)),0,65⟩),
 (278,⟨(.int .i64),0,8⟩),
 (284,⟨(.arr 32 (.int .u8)),0,32⟩),
 (285,⟨(.arr 64 (.int .u8)),0,64⟩),
 (286,⟨(.int .u64),0,8⟩),
 (300,⟨(.int .u8),0,1⟩),
 (301,⟨(.int .u8),0,1⟩),
 (303,⟨(.int .i32),0,4⟩),
 (304,⟨(.int .i32),0,4⟩)]
abbrev ge:Nat:=1
abbrev gm:Nat:=0
instance laidI:Laid Go.Proofs.Tryz.prog:=doorLaid Go.Proofs.Tryz.prog gm
abbrev y0:Go.Rx.Ty:= .prod (.slice 3 (.int .i64)) (.prod (.slice 3 (.int .i64)) (.prod (.slice 3 (.int .i64)) (.slice 3 (.int .i64))))
abbrev y1:Go.Rx.Ty:= .int .i64
abbrev y2:Go.Rx.Ty:= .slice 3 y1
abbrev y3:Go.Rx.Perm:= .pr (.pr (.own .ro) (.pr (.own .ro) (.pr (.own .ro) (.own .ro)))) (.pr (.own .ro) .ro)
abbrev y4:Go.Rx.Ty:= .prod y0 (.prod y2 y1)
abbrev y5:Go.Rx.Ty:= .prod .str (.prod .str y1)
abbrev y6:Go.Rx.Ty:= .prod y1 (.prod y1 (.prod y1 (.prod y1 y1)))
abbrev y7:Go.Rx.Ty:= .slice 9 .str
abbrev y8:Go.Rx.Perm:= .pr (.own .ro) .ro
abbrev y9:Go.Rx.Perm:= .pr (.own .ro) (.pr (.own .ro) (.pr (.own .ro) (.own .ro)))
abbrev y10:Go.Rx.Ty:= .prod y2 .bool
abbrev y11:Go.Rx.Ty:= .prod .str .str
abbrev y12:Go.Rx.Ty:= .prod y4 y5
abbrev y13:Go.Rx.Ty:= .prod y1 .bool
abbrev y14:Go.Rx.Ty:= .prod .str .bool
theorem tabs:∀l,TabOk Go.Proofs.Tryz.prog (ctx tab l):=ZoZ (by kernel_rfl)
theorem cn:CtxOk Go.Proofs.Tryz.prog (ctx tab []):=ZoY tabs (by kernel_rfl)
theorem cc {l:List (Nat×Go.Rx.Spec)} {f:Nat} {sp:Go.Rx.Spec} (hl:CtxOk Go.Proofs.Tryz.prog (ctx tab l)) (h:Sat Go.Proofs.Tryz.prog f sp) (hf:decide (f<65536)=true:=by decide):CtxOk Go.Proofs.Tryz.prog (ctx tab ((f,sp)::l)):=ZnN tabs hl h hf
abbrev Sp:=Go.Rx.Spec
open Go.Proofs.Tryz
noncomputable section
def S44 (N:Nat):Sp:=⟨.none,[y2,y1],y1,1, .ro,fun _ x=>Px.Q83 N x.1 x.2.1⟩
theorem s44 (N:Nat):Sat prog 44 (S44 N):=sq (N:=N) (cn) .nil func44
def S43 (N:Nat):Sp:=⟨.none,[y0,y1],y1,1, .ro,fun _ x=>Px.Q81 N x.1 x.2.1⟩
theorem s43 (N:Nat):Sat prog 43 (S43 N):=sq (N:=N) (cc cn (s44 N)) .nil func43
def S8 (N:Nat):Sp:=⟨.none,[y4,y1],y1,1, .ro,fun _ x=>Px.Q84 N x.1 x.2.1⟩
theorem s8 (N:Nat):Sat prog 8 (S8 N):=sq (N:=N) (cc (cc cn (s44 N)) (s43 N)) .nil func8
def S9 (N:Nat):Sp:=⟨.none,[y5,y1],y1,1, .ro,fun _ x=>Px.Q85 N x.1 x.2.1⟩
theorem s9 (N:Nat):Sat prog 9 (S9 N):=sq (N:=N) (cn) .nil func9
def S15 (N:Nat):Sp:=⟨.none,[y12,y1],y1,1, .ro,fun _ x=>Px.Q82 N x.1 x.2.1⟩
theorem s15 (N:Nat):Sat prog 15 (S15 N):=sq (N:=N) (cc (cc cn (s9 N)) (s8 N)) .nil func15
def S48 (N:Nat):Sp:=⟨.none,[y2],y2,1,(.own .ro),fun _ x=>Px.Q88 N x.1⟩
theorem s48 (N:Nat):Sat prog 48 (S48 N):=sq (N:=N) (cn) (.node none .nil (.node none .nil (.node none (.node none .nil (.node (some ⟨22,[(3, .vw 7 [])],[⟨7,false,false,(.own .ro),y2⟩]⟩) (.node (some ⟨22,[(0, .val y2),(3, .vw 7 []),(4, .val y1)],[⟨7,false,false,(.own .ro),y2⟩]⟩) .nil .nil) .nil)) .nil))) func48
def S47 (N:Nat):Sp:=⟨.none,[y0],y0,1,y9,fun _ x=>Px.Q86 N x.1⟩
theorem s47 (N:Nat):Sat prog 47 (S47 N):=sq (N:=N) (cc cn (s48 N)) .nil func47
def S11 (N:Nat):Sp:=⟨.none,[y4],y4,1,y3,fun _ x=>Px.Q89 N x.1⟩
theorem s11 (N:Nat):Sat prog 11 (S11 N):=sq (N:=N) (cc (cc cn (s48 N)) (s47 N)) .nil func11
def S12 (N:Nat):Sp:=⟨.none,[y5],y5,1, .ro,fun _ x=>Px.Q90 N x.1⟩
theorem s12 (N:Nat):Sat prog 12 (S12 N):=sq (N:=N) (cn) .nil func12
def S17 (N:Nat):Sp:=⟨.none,[y12],y12,1,(.pr y3 .ro),fun _ x=>Px.Q87 N x.1⟩
theorem s17 (N:Nat):Sat prog 17 (S17 N):=sq (N:=N) (cc (cc cn (s12 N)) (s11 N)) .nil func17
def S50 (N:Nat):Sp:=⟨.none,[y2,y2], .bool,1, .ro,fun _ x=>Px.Q70 N x.1 x.2.1⟩
theorem s50 (N:Nat):Sat prog 50 (S50 N):=sq (N:=N) (cn) (.node none .nil (.node none .nil (.node none (.node none .nil (.node (some ⟨26,[],[]⟩) (.node (some ⟨26,[(0, .val y2),(1, .val y2),(5, .val y1)],[]⟩) .nil .nil) .nil)) .nil))) func50
def S49 (N:Nat):Sp:=⟨.none,[y0,y0], .bool,1, .ro,fun _ x=>Px.Q68 N x.1 x.2.1⟩
theorem s49 (N:Nat):Sat prog 49 (S49 N):=sq (N:=N) (cc cn (s50 N)) .nil func49
def S14 (N:Nat):Sp:=⟨.none,[y4,y4], .bool,1, .ro,fun _ x=>Px.Q71 N x.1 x.2.1⟩
theorem s14 (N:Nat):Sat prog 14 (S14 N):=sq (N:=N) (cc (cc cn (s50 N)) (s49 N)) .nil func14
def S59 (N:Nat):Sp:=⟨.none,[y5,y5], .bool,1, .ro,fun _ x=>Px.Q72 N x.1 x.2.1⟩
theorem s59 (N:Nat):Sat prog 59 (S59 N):=sq (N:=N) (cn) .nil func59
def S19 (N:Nat):Sp:=⟨.none,[y12,y12], .bool,1, .ro,fun _ x=>Px.Q69 N x.1 x.2.1⟩
theorem s19 (N:Nat):Sat prog 19 (S19 N):=sq (N:=N) (cc (cc cn (s59 N)) (s14 N)) .nil func19
def S99 (N:Nat):Sp:=⟨(.«mut» y2 (.own .ro) (.own .ro)),[y1],y1,1, .ro,fun g x=>Px.Q77 N g x.1⟩
theorem s99 (N:Nat):Sat prog 99 (S99 N):=sq (N:=N) (cn) (.node none .nil (.node none (.node none .nil (.node (some ⟨19,[(0, .vw 0 []),(1, .val y1)],[⟨0,false,false,(.own .ro),y2⟩]⟩) (.node (some ⟨19,[(0, .vw 0 []),(1, .val y1),(5, .val y1)],[⟨0,false,false,(.own .ro),y2⟩]⟩) .nil .nil) .nil)) .nil)) func99
def S98 (N:Nat):Sp:=⟨(.«mut» y0 y9 y9),[y1],y1,1, .ro,fun g x=>Px.Q75 N g x.1⟩
theorem s98 (N:Nat):Sat prog 98 (S98 N):=sq (N:=N) (cc cn (s99 N)) .nil func98
def S60 (N:Nat):Sp:=⟨(.«mut» y4 y3 y3),[y1],y1,1, .ro,fun g x=>Px.Q78 N g x.1⟩
theorem s60 (N:Nat):Sat prog 60 (S60 N):=sq (N:=N) (cc (cc cn (s99 N)) (s98 N)) .nil func60
def S20 (N:Nat):Sp:=⟨(.«mut» y12 (.pr y3 .ro) (.pr y3 .ro)),[y1],y1,1, .ro,fun g x=>Px.Q76 N g x.1⟩
theorem s20 (N:Nat):Sat prog 20 (S20 N):=sq (N:=N) (cc cn (s60 N)) .nil func20
def S62 (N:Nat):Sp:=⟨.none,[.str,(.int .u8)],y7,1,(.own .ro),fun _ x=>Px.Q143 N x.1 x.2.1⟩
theorem s62 (N:Nat):Sat prog 62 (S62 N):=sq (N:=N) (cn) (.node none .nil (.node none .nil (.node none .nil (.node none (.node none .nil (.node (some ⟨35,[(0, .val .str),(5, .vw 8 []),(6, .val y1)],[⟨8,false,false,(.own .ro),y7⟩]⟩) (.node (some ⟨35,[(0, .val .str),(1, .val (.int .u8)),(5, .vw 8 []),(6, .val y1),(7, .val y1)],[⟨8,false,false,(.own .ro),y7⟩]⟩) .nil .nil) .nil)) .nil)))) func62
def S109 (N:Nat):Sp:=⟨.none,[y1,y1,y1], .bool,1, .ro,fun _ x=>Px.Q136 N x.1 x.2.1 x.2.2.1⟩
theorem s109 (N:Nat):Sat prog 109 (S109 N):=sq (N:=N) (cn) .nil func109
def S82 (N:Nat):Sp:=⟨.none,[.str,y1], .bool,1, .ro,fun _ x=>Px.Q109 N x.1 x.2.1⟩
theorem s82 (N:Nat):Sat prog 82 (S82 N):=sq (N:=N) (cc cn (s109 N)) (.node none .nil (.node none (.node none .nil (.node (some ⟨28,[(0, .val .str),(1, .val y1)],[]⟩) (.node (some ⟨28,[(0, .val .str),(1, .val y1),(5, .val y1)],[]⟩) .nil .nil) .nil)) .nil)) func82
def S83 (N:Nat):Sp:=⟨.none,[.str,(.int .u8)], .bool,1, .ro,fun _ x=>Px.Q144 N x.1 x.2.1⟩
theorem s83 (N:Nat):Sat prog 83 (S83 N):=sq (N:=N) (cn) (.node none .nil (.node none (.node none .nil (.node (some ⟨17,[],[]⟩) (.node (some ⟨17,[(0, .val .str),(1, .val (.int .u8)),(5, .val y1)],[]⟩) .nil .nil) .nil)) .nil)) func83
def S52 (N:Nat):Sp:=⟨.none,[y11], .bool,1, .ro,fun _ x=>Px.Q129 N x.1⟩
theorem s52 (N:Nat):Sat prog 52 (S52 N):=sq (N:=N) (cc (cc cn (s83 N)) (s82 N)) .nil func52
def S111 (N:Nat):Sp:=⟨.none,[y1], .str,1, .ro,fun _ x=>Px.Q139 N x.1⟩
def S111R (F:Int→Option (ByteArray×Unit)):Sp:=⟨.none,[y1], .str,1, .ro,fun _ x=>F x.1⟩
theorem e111 (N:Nat) (kr:Int→Option (ByteArray×Unit)):evalFn (ctx tab [(111,S111R kr)]) N .nil f111 .none [y1] .str 1 .ro=(S111R (Px.Q139_F N kr)).f:=by kernel_rfl
theorem s111R (N:Nat):∀m:Nat,Sat prog 111 (S111R (Px.Q139_R N m))
 | 0=>ZnO func111 (by kernel_rfl) (by kernel_rfl)
 | m+1=>by
  have ih:=s111R N m
  exact Zou (cc (cn) ih) func111 (by kernel_rfl) (by kernel_rfl) (by decide) (by decide) (e111 N _)
theorem s111 (N:Nat):Sat prog 111 (S111 N):=s111R N N
def S181 (N:Nat):Sp:=⟨.none,[.str],y1,1, .ro,fun _ x=>Px.Q145 N x.1⟩
theorem s181 (N:Nat):Sat prog 181 (S181 N):=sq (N:=N) (cn) (.node none .nil (.node none .nil (.node none (.node none .nil (.node (some ⟨21,[(3, .val y1)],[]⟩) (.node (some ⟨21,[(0, .val .str),(3, .val y1),(4, .val y1)],[]⟩) .nil .nil) .nil)) .nil))) func181
def S132 (N:Nat):Sp:=⟨.none,[.str], .str,1, .ro,fun _ x=>Px.Q142 N x.1⟩
theorem s132 (N:Nat):Sat prog 132 (S132 N):=sq (N:=N) (cc (cc cn (s181 N)) (s111 N)) .nil func132
def S88 (N:Nat):Sp:=⟨.none,[y1,y11], .str,1, .ro,fun _ x=>Px.Q119 N x.1 x.2.1⟩
theorem s88 (N:Nat):Sat prog 88 (S88 N):=sq (N:=N) (cc (cc cn (s132 N)) (s111 N)) .nil func88
def S80 (N:Nat):Sp:=⟨.none,[.str,y1],(.prod y11 .bool),2, .ro,fun _ x=>Px.Q112 N x.1 x.2.1⟩
theorem s80 (N:Nat):Sat prog 80 (S80 N):=sq (N:=N) (cc (cc (cc (cc cn (s111 N)) (s88 N)) (s62 N)) (s52 N)) .nil func80
def S46 (N:Nat):Sp:=⟨.none,[.str],(.prod (.slice 70 y11) y1),2,y8,fun _ x=>Px.Q125 N x.1⟩
theorem s46 (N:Nat):Sat prog 46 (S46 N):=sq (N:=N) (cc (cc cn (s80 N)) (s62 N)) (.node none .nil (.node none .nil (.node none .nil (.node none (.node (some ⟨52,[(4, .vw 9 []),(5, .val y1)],[⟨9,false,false,(.own .ro),(.slice 70 y11)⟩]⟩) (.node (some ⟨52,[(0, .val .str),(4, .vw 9 []),(5, .val y1)],[⟨9,false,false,(.own .ro),(.slice 70 y11)⟩]⟩) .nil .nil) .nil) .nil)))) func46
def S45 (N:Nat):Sp:=⟨.none,[y5], .bool,1, .ro,fun _ x=>Px.Q134 N x.1⟩
theorem s45 (N:Nat):Sat prog 45 (S45 N):=sq (N:=N) (cc cn (s46 N)) .nil func45
def S108 (N:Nat):Sp:=⟨.none,[y2,y1,y1], .bool,1, .ro,fun _ x=>Px.Q155 N x.1 x.2.1 x.2.2.1⟩
theorem s108 (N:Nat):Sat prog 108 (S108 N):=sq (N:=N) (cc cn (s109 N)) (.node none .nil (.node none (.node none .nil (.node (some ⟨25,[(0, .val y2),(1, .val y1)],[]⟩) (.node (some ⟨25,[(0, .val y2),(1, .val y1),(2, .val y1),(7, .val y1)],[]⟩) .nil .nil) .nil)) .nil)) func108
def S107 (N:Nat):Sp:=⟨.none,[y0], .bool,1, .ro,fun _ x=>Px.Q152 N x.1⟩
theorem s107 (N:Nat):Sat prog 107 (S107 N):=sq (N:=N) (cc cn (s108 N)) .nil func107
def S110 (N:Nat):Sp:=⟨.none,[y4,y1],y1,1, .ro,fun _ x=>Px.Q132 N x.1 x.2.1⟩
theorem s110 (N:Nat):Sat prog 110 (S110 N):=sq (N:=N) (cn) (.node none .nil (.node none .nil (.node none (.node none .nil (.node (some ⟨27,[(5, .val y1)],[]⟩) (.node (some ⟨27,[(1, .val y1),(2, .ptr 2 []),(5, .val y1),(6, .val y1)],[⟨2,true,false, .ro,y4⟩]⟩) .nil .nil) .nil)) .nil))) func110
def S67 (N:Nat):Sp:=⟨.none,[y4], .bool,1, .ro,fun _ x=>Px.Q117 N x.1⟩
theorem s67 (N:Nat):Sat prog 67 (S67 N):=sq (N:=N) (cc (cc (cc (cc cn (s110 N)) (s109 N)) (s108 N)) (s107 N)) (.node none .nil (.node none .nil (.node none .nil (.node none (.node none .nil (.node (some ⟨37,[],[]⟩) (.node (some ⟨37,[(1, .ptr 1 []),(4, .val y1)],[⟨1,true,false, .ro,y4⟩]⟩) .nil .nil) .nil)) .nil)))) func67
def S36 (N:Nat):Sp:=⟨.none,[y12], .bool,1, .ro,fun _ x=>Px.Q103 N x.1⟩
theorem s36 (N:Nat):Sat prog 36 (S36 N):=sq (N:=N) (cc (cc cn (s67 N)) (s45 N)) .nil func36
def S81 (N:Nat):Sp:=⟨.none,[y2],y2,1,(.own .ro),fun _ x=>Px.Q140 N x.1⟩
theorem s81 (N:Nat):Sat prog 81 (S81 N):=sq (N:=N) (cn) .nil func81
def S51 (N:Nat):Sp:=⟨.none,[y4],y4,1,y3,fun _ x=>Px.Q126 N x.1⟩
theorem s51 (N:Nat):Sat prog 51 (S51 N):=sq (N:=N) (cc cn (s81 N)) .nil func51
def S162 (N:Nat):Sp:=⟨.none,[y6], .bool,1, .ro,fun _ x=>Px.Q127 N x.1⟩
theorem s162 (N:Nat):Sat prog 162 (S162 N):=sq (N:=N) (cc cn (s109 N)) (.node none .nil (.node none (.node none .nil (.node (some ⟨41,[(1, .ptr 1 [])],[⟨1,true,false, .ro,y6⟩]⟩) .nil .nil)) .nil)) func162
def S210 (N:Nat):Sp:=⟨.none,[y4,y1], .bool,1, .ro,fun _ x=>Px.Q110 N x.1 x.2.1⟩
theorem s210 (N:Nat):Sat prog 210 (S210 N):=sq (N:=N) (cc cn (s109 N)) .nil func210
def S163 (N:Nat):Sp:=⟨.none,[y4,y6], .bool,1, .ro,fun _ x=>Px.Q122 N x.1 x.2.1⟩
theorem s163 (N:Nat):Sat prog 163 (S163 N):=sq (N:=N) (cc cn (s210 N)) .nil func163
def S218 (N:Nat):Sp:=⟨.none,[y2],y1,1, .ro,fun _ x=>Px.Q157 N x.1⟩
theorem s218 (N:Nat):Sat prog 218 (S218 N):=sq (N:=N) (cn) (.node none .nil (.node none .nil (.node none (.node none .nil (.node (some ⟨18,[(3, .val y1)],[]⟩) (.node (some ⟨18,[(0, .val y2),(3, .val y1),(4, .val y1)],[]⟩) .nil .nil) .nil)) .nil))) func218
def S178 (N:Nat):Sp:=⟨.none,[y0,y2],y2,1,(.own .ro),fun _ x=>Px.Q151 N x.1 x.2.1⟩
theorem s178 (N:Nat):Sat prog 178 (S178 N):=sq (N:=N) (cc cn (s218 N)) (.node none .nil (.node none .nil (.node none (.node none .nil (.node (some ⟨47,[(5, .vw 11 [])],[⟨11,false,false,(.own .ro),y2⟩]⟩) (.node (some ⟨47,[(1, .val y2),(2, .ptr 2 []),(5, .vw 11 []),(6, .val y1)],[⟨2,true,false, .ro,y0⟩,⟨11,false,false,(.own .ro),y2⟩]⟩) (.node none .nil (.node none (.node none (.node none .nil (.node none (.node none .nil (.node (some ⟨47,[(1, .val y2),(2, .ptr 2 []),(5, .vw 11 []),(6, .val y1),(7, .val y1)],[⟨2,true,false, .ro,y0⟩,⟨11,false,false,(.own .ro),y2⟩]⟩) .nil .nil)) .nil)) .nil) .nil)) .nil) .nil)) .nil))) func178
def S161 (N:Nat):Sp:=⟨.none,[y1,y1],y1,1, .ro,fun _ x=>Px.Q137 N x.1 x.2.1⟩
theorem s161 (N:Nat):Sat prog 161 (S161 N):=sq (N:=N) (cn) .nil func161
def S169 (N:Nat):Sp:=⟨.none,[y4],y2,1,(.own .ro),fun _ x=>Px.Q118 N x.1⟩
theorem s169 (N:Nat):Sat prog 169 (S169 N):=sq (N:=N) (cc (cc cn (s161 N)) (s110 N)) (.node none .nil (.node none .nil (.node none .nil (.node none (.node none .nil (.node (some ⟨44,[(3, .vw 7 [])],[⟨7,false,false,(.own .ro),y2⟩]⟩) (.node (some ⟨44,[(1, .ptr 1 []),(3, .vw 7 []),(4, .val y1),(5, .val y1)],[⟨1,true,false, .ro,y4⟩,⟨7,false,false,(.own .ro),y2⟩]⟩) .nil .nil) .nil)) .nil)))) func169
def S211 (N:Nat):Sp:=⟨.none,[y4],y0,1,y9,fun _ x=>Px.Q108 N x.1⟩
theorem s211 (N:Nat):Sat prog 211 (S211 N):=sq (N:=N) (cc (cc cn (s169 N)) (s81 N)) .nil func211
def S252 (N:Nat):Sp:=⟨.none,[y0,y2],y2,1,(.own .ro),fun _ x=>Px.Q156 N x.1 x.2.1⟩
theorem s252 (N:Nat):Sat prog 252 (S252 N):=sq (N:=N) (cn) (.node none .nil (.node none .nil (.node none (.node none .nil (.node (some ⟨32,[(5, .vw 8 [])],[⟨8,false,false,(.own .ro),y2⟩]⟩) (.node (some ⟨32,[(1, .val y2),(2, .ptr 2 []),(5, .vw 8 []),(6, .val y1),(7, .val y1)],[⟨2,true,false, .ro,y0⟩,⟨8,false,false,(.own .ro),y2⟩]⟩) .nil .nil) .nil)) .nil))) func252
def S217 (N:Nat):Sp:=⟨.none,[y0,y2],(.arr 3 y1),1, .ro,fun _ x=>Px.Q154 N x.1 x.2.1⟩
theorem s217 (N:Nat):Sat prog 217 (S217 N):=sq (N:=N) (cc cn (s252 N)) (.node none .nil (.node none .nil (.node none (.node none .nil (.node (some ⟨61,[(4, .ptr 4 []),(5, .ptr 5 [])],[⟨4,true,false, .ro,(.arr 3 y1)⟩,⟨5,true,false, .ro,(.arr 3 y1)⟩]⟩) (.node (some ⟨61,[(1, .val y2),(2, .ptr 2 []),(4, .ptr 4 []),(5, .ptr 5 []),(6, .vw 11 []),(7, .val y1)],[⟨2,true,false, .ro,y0⟩,⟨4,true,false, .ro,(.arr 3 y1)⟩,⟨5,true,false, .ro,(.arr 3 y1)⟩,⟨11,false,false,(.own .ro),y2⟩]⟩) (.node none .nil (.node none (.node none (.node none (.node none .nil (.node (some ⟨61,[(1, .val y2),(2, .ptr 2 []),(4, .ptr 4 []),(5, .ptr 5 []),(6, .vw 11 []),(7, .val y1)],[⟨2,true,false, .ro,y0⟩,⟨4,true,false, .ro,(.arr 3 y1)⟩,⟨5,true,false, .ro,(.arr 3 y1)⟩,⟨11,false,false,(.own .ro),y2⟩]⟩) .nil .nil)) .nil) .nil) .nil)) .nil) .nil)) .nil))) func217
def S177 (N:Nat):Sp:=⟨.none,[y0,y2],y1,1, .ro,fun _ x=>Px.Q149 N x.1 x.2.1⟩
theorem s177 (N:Nat):Sat prog 177 (S177 N):=sq (N:=N) (cc cn (s217 N)) .nil func177
def S247 (N:Nat):Sp:=⟨.none,[y1,y1],y2,1,(.own .ro),fun _ x=>Px.Q148 N x.1 x.2.1⟩
theorem s247 (N:Nat):Sat prog 247 (S247 N):=sq (N:=N) (cn) (.node none .nil (.node none .nil (.node none (.node none .nil (.node (some ⟨23,[(5, .vw 7 [])],[⟨7,false,false,(.own .ro),y2⟩]⟩) (.node (some ⟨23,[(0, .val y1),(1, .val y1),(5, .vw 7 []),(6, .val y1)],[⟨7,false,false,(.own .ro),y2⟩]⟩) .nil .nil) .nil)) .nil))) func247
def S248 (N:Nat):Sp:=⟨.none,[y0,y2], .bool,1, .ro,fun _ x=>Px.Q150 N x.1 x.2.1⟩
theorem s248 (N:Nat):Sat prog 248 (S248 N):=sq (N:=N) (cn) (.node none .nil (.node none (.node none .nil (.node (some ⟨29,[],[]⟩) (.node (some ⟨29,[(1, .val y2),(2, .ptr 2 []),(5, .val y1)],[⟨2,true,false, .ro,y0⟩]⟩) .nil .nil) .nil)) .nil)) func248
def S249 (N:Nat):Sp:=⟨.none,[y2,y2], .bool,1, .ro,fun _ x=>Px.Q146 N x.1 x.2.1⟩
theorem s249 (N:Nat):Sat prog 249 (S249 N):=sq (N:=N) (cn) (.node none .nil (.node none .nil (.node none (.node none .nil (.node (some ⟨40,[],[]⟩) (.node (some ⟨40,[(0, .val y2),(1, .val y2),(5, .val y1)],[]⟩) .nil .nil) .nil)) .nil))) func249
def S212 (N:Nat):Sp:=⟨.none,[y0],y2,1,(.own .ro),fun _ x=>Px.Q147 N x.1⟩
theorem s212 (N:Nat):Sat prog 212 (S212 N):=sq (N:=N) (cc (cc (cc (cc (cc cn (s249 N)) (s248 N)) (s247 N)) (s178 N)) (s177 N)) (.node none .nil (.node none .nil (.node none (.node none .nil (.node (some ⟨51,[(3, .vw 8 [])],[⟨8,false,false,(.own .ro),y2⟩]⟩) (.node (some ⟨51,[(1, .ptr 1 []),(3, .vw 8 []),(4, .val y1),(5, .val y1)],[⟨1,true,false, .ro,y0⟩,⟨8,false,false,(.own .ro),y2⟩]⟩) .nil .nil) .nil)) .nil))) func212
def S164 (N:Nat):Sp:=⟨.none,[y4,y6],y4,1,y3,fun _ x=>Px.Q121 N x.1 x.2.1⟩
theorem s164 (N:Nat):Sat prog 164 (S164 N):=sq (N:=N) (cc (cc (cc (cc (cc cn (s212 N)) (s211 N)) (s178 N)) (s81 N)) (s51 N)) .nil func164
def S120 (N:Nat):Sp:=⟨.none,[y4,y6],(.prod y4 .bool),2,(.pr y3 .ro),fun _ x=>Px.Q113 N x.1 x.2.1⟩
theorem s120 (N:Nat):Sat prog 120 (S120 N):=sq (N:=N) (cc (cc (cc (cc cn (s164 N)) (s163 N)) (s162 N)) (s67 N)) .nil func120
def S130 (N:Nat):Sp:=⟨.none,[y2], .str,1, .ro,fun _ x=>Px.Q123 N x.1⟩
theorem s130 (N:Nat):Sat prog 130 (S130 N):=sq (N:=N) (cc cn (s111 N)) (.node none .nil (.node none .nil (.node none (.node none .nil (.node (some ⟨25,[(3, .val .str)],[]⟩) (.node (some ⟨25,[(0, .val y2),(3, .val .str),(4, .val y1)],[]⟩) .nil .nil) .nil)) .nil))) func130
def S131 (N:Nat):Sp:=⟨.none,[y4],y2,1,(.own .ro),fun _ x=>Px.Q131 N x.1⟩
theorem s131 (N:Nat):Sat prog 131 (S131 N):=sq (N:=N) (cc cn (s110 N)) (.node none .nil (.node none .nil (.node none (.node none .nil (.node (some ⟨25,[(3, .vw 5 [])],[⟨5,false,false,(.own .ro),y2⟩]⟩) (.node (some ⟨25,[(1, .ptr 1 []),(3, .vw 5 []),(4, .val y1)],[⟨1,true,false, .ro,y4⟩,⟨5,false,false,(.own .ro),y2⟩]⟩) .nil .nil) .nil)) .nil))) func131
def S87 (N:Nat):Sp:=⟨.none,[y4,y6],(.prod y4 .str),2, .ro,fun _ x=>Px.Q114 N x.1 x.2.1⟩
theorem s87 (N:Nat):Sat prog 87 (S87 N):=sq (N:=N) (cc (cc (cc (cc (cc cn (s131 N)) (s130 N)) (s120 N)) (s111 N)) (s110 N)) .nil func87
def S125 (N:Nat):Sp:=⟨.none,[y2, .bool], .str,1, .ro,fun _ x=>Px.Q120 N x.1 x.2.1⟩
theorem s125 (N:Nat):Sat prog 125 (S125 N):=sq (N:=N) (cc cn (s130 N)) .nil func125
def S127 (N:Nat):Sp:=⟨.none,[y1, .bool], .str,1, .ro,fun _ x=>Px.Q130 N x.1 x.2.1⟩
theorem s127 (N:Nat):Sat prog 127 (S127 N):=sq (N:=N) (cc cn (s111 N)) .nil func127
def S167 (N:Nat):Sp:=⟨.none,[y4,y1,y1],y1,1, .ro,fun _ x=>Px.Q111 N x.1 x.2.1 x.2.2.1⟩
theorem s167 (N:Nat):Sat prog 167 (S167 N):=sq (N:=N) (cc cn (s110 N)) (.node none .nil (.node none .nil (.node none (.node none .nil (.node (some ⟨56,[(7, .val y1)],[]⟩) (.node (some ⟨56,[(2, .val y1),(3, .ptr 3 []),(7, .val y1),(8, .val y1)],[⟨3,true,false, .ro,y4⟩]⟩) .nil .nil) .nil)) .nil))) func167
def S168 (N:Nat):Sp:=⟨.none,[y4],y13,2, .ro,fun _ x=>Px.Q98 N x.1⟩
theorem s168 (N:Nat):Sat prog 168 (S168 N):=sq (N:=N) (cc (cc (cc cn (s167 N)) (s131 N)) (s67 N)) .nil func168
def S170 (N:Nat):Sp:=⟨.none,[y0], .str,1, .ro,fun _ x=>Px.Q158 N x.1⟩
theorem s170 (N:Nat):Sat prog 170 (S170 N):=sq (N:=N) (cc cn (s111 N)) (.node none .nil (.node none .nil (.node none (.node none .nil (.node (some ⟨53,[(1, .ptr 1 []),(3, .val .str)],[⟨1,true,false, .ro,y0⟩]⟩) (.node (some ⟨53,[(1, .ptr 1 []),(3, .val .str),(4, .val y1)],[⟨1,true,false, .ro,y0⟩]⟩) (.node none .nil (.node none (.node none (.node none (.node none .nil (.node (some ⟨53,[(1, .ptr 1 []),(3, .val .str),(4, .val y1)],[⟨1,true,false, .ro,y0⟩]⟩) .nil .nil)) .nil) .nil) .nil)) .nil) .nil)) .nil))) func170
def S213 (N:Nat):Sp:=⟨.none,[y0],y1,1, .ro,fun _ x=>Px.Q153 N x.1⟩
theorem s213 (N:Nat):Sat prog 213 (S213 N):=sq (N:=N) (cc (cc (cc cn (s212 N)) (s178 N)) (s177 N)) .nil func213
def S171 (N:Nat):Sp:=⟨.none,[y0],y13,2, .ro,fun _ x=>Px.Q96 N x.1⟩
theorem s171 (N:Nat):Sat prog 171 (S171 N):=sq (N:=N) (cc (cc cn (s213 N)) (s107 N)) .nil func171
def S250 (N:Nat):Sp:=⟨.none,[y0,y1,y1],y1,1, .ro,fun _ x=>Px.Q164 N x.1 x.2.1 x.2.2.1⟩
theorem s250 (N:Nat):Sat prog 250 (S250 N):=sq (N:=N) (cn) (.node none .nil (.node none .nil (.node none (.node none .nil (.node (some ⟨28,[(7, .val y1)],[]⟩) (.node (some ⟨28,[(2, .val y1),(3, .ptr 3 []),(7, .val y1),(8, .val y1)],[⟨3,true,false, .ro,y0⟩]⟩) .nil .nil) .nil)) .nil))) func250
def S219 (N:Nat):Sp:=⟨.none,[y0,y1,y1],y1,1, .ro,fun _ x=>Px.Q166 N x.1 x.2.1 x.2.2.1⟩
theorem s219 (N:Nat):Sat prog 219 (S219 N):=sq (N:=N) (cc cn (s250 N)) (.node none .nil (.node none .nil (.node none (.node none .nil (.node (some ⟨46,[(1, .val y1),(3, .ptr 3 []),(7, .val y1),(8, .val .bool)],[⟨3,true,false, .ro,y0⟩]⟩) (.node (some ⟨46,[(1, .val y1),(2, .val y1),(3, .ptr 3 []),(7, .val y1),(8, .val .bool),(9, .val y1)],[⟨3,true,false, .ro,y0⟩]⟩) .nil .nil) .nil)) .nil))) func219
def S214 (N:Nat):Sp:=⟨.none,[y0],(.prod y2 y2),2,(.pr (.own .ro) (.own .ro)),fun _ x=>Px.Q162 N x.1⟩
theorem s214 (N:Nat):Sat prog 214 (S214 N):=sq (N:=N) (cc cn (s219 N)) (.node none .nil (.node none .nil (.node none (.node none .nil (.node (some ⟨61,[(4, .vw 9 []),(5, .vw 10 [])],[⟨9,false,false,(.own .ro),y2⟩,⟨10,false,false,(.own .ro),y2⟩]⟩) (.node (some ⟨61,[(1, .ptr 1 []),(4, .vw 9 []),(5, .vw 10 []),(6, .val y1)],[⟨1,true,false, .ro,y0⟩,⟨9,false,false,(.own .ro),y2⟩,⟨10,false,false,(.own .ro),y2⟩]⟩) (.node none .nil (.node none (.node none (.node none .nil (.node none (.node none .nil (.node (some ⟨61,[(1, .ptr 1 []),(4, .vw 9 []),(5, .vw 10 []),(6, .val y1),(7, .val y1)],[⟨1,true,false, .ro,y0⟩,⟨9,false,false,(.own .ro),y2⟩,⟨10,false,false,(.own .ro),y2⟩]⟩) (.node (some ⟨61,[(1, .ptr 1 []),(4, .vw 9 []),(5, .vw 10 []),(6, .val y1),(7, .val y1),(8, .val y1)],[⟨1,true,false, .ro,y0⟩,⟨9,false,false,(.own .ro),y2⟩,⟨10,false,false,(.own .ro),y2⟩]⟩) .nil .nil) .nil)) .nil)) .nil) .nil)) .nil) .nil)) .nil))) func214
def S172 (N:Nat):Sp:=⟨.none,[y0],y10,2,y8,fun _ x=>Px.Q101 N x.1⟩
theorem s172 (N:Nat):Sat prog 172 (S172 N):=sq (N:=N) (cc (cc cn (s214 N)) (s107 N)) .nil func172
def S179 (N:Nat):Sp:=⟨.none,[y0],y2,1,(.own .ro),fun _ x=>Px.Q159 N x.1⟩
theorem s179 (N:Nat):Sat prog 179 (S179 N):=sq (N:=N) (cc (cc cn (s219 N)) (s161 N)) (.node none .nil (.node none .nil (.node none .nil (.node none (.node none .nil (.node (some ⟨51,[(4, .vw 12 [])],[⟨12,false,false,(.own .ro),y2⟩]⟩) (.node (some ⟨51,[(1, .ptr 1 []),(3, .val y1),(4, .vw 12 []),(5, .val y1)],[⟨1,true,false, .ro,y0⟩,⟨12,false,false,(.own .ro),y2⟩]⟩) (.node none .nil (.node none (.node none (.node none .nil (.node none .nil (.node (some ⟨51,[(1, .ptr 1 []),(3, .val y1),(4, .vw 12 []),(5, .val y1)],[⟨1,true,false, .ro,y0⟩,⟨12,false,false,(.own .ro),y2⟩]⟩) (.node (some ⟨51,[(1, .ptr 1 []),(3, .val y1),(4, .vw 12 []),(5, .val y1),(6, .val y1)],[⟨1,true,false, .ro,y0⟩,⟨12,false,false,(.own .ro),y2⟩]⟩) .nil .nil) .nil))) .nil) .nil)) .nil) .nil)) .nil)))) func179
def S173 (N:Nat):Sp:=⟨.none,[y0],y10,2,y8,fun _ x=>Px.Q107 N x.1⟩
theorem s173 (N:Nat):Sat prog 173 (S173 N):=sq (N:=N) (cc (cc (cc cn (s214 N)) (s179 N)) (s107 N)) (.node none .nil (.node none .nil (.node none .nil (.node none .nil (.node none .nil (.node none (.node none .nil (.node (some ⟨45,[(4, .vw 9 [])],[⟨9,false,false,(.own .ro),y2⟩]⟩) (.node (some ⟨45,[(4, .vw 9 []),(5, .vw 16 [.fst]),(7, .vw 20 []),(8, .val y1)],[⟨9,false,false,(.own .ro),y2⟩,⟨16,false,false,(.pr (.own .ro) (.own .ro)),(.prod y2 y2)⟩,⟨20,false,false,(.own .ro),y2⟩]⟩) .nil .nil) .nil)) .nil)))))) func173
def S174 (N:Nat):Sp:=⟨.none,[y0],y10,2,y8,fun _ x=>Px.Q102 N x.1⟩
theorem s174 (N:Nat):Sat prog 174 (S174 N):=sq (N:=N) (cc (cc cn (s214 N)) (s107 N)) (.node none .nil (.node none .nil (.node none .nil (.node none .nil (.node none (.node none .nil (.node (some ⟨46,[(4, .vw 8 [])],[⟨8,false,false,(.own .ro),y2⟩]⟩) (.node (some ⟨46,[(1, .ptr 1 []),(4, .vw 8 []),(6, .vw 15 [.snd]),(7, .val y1)],[⟨1,true,false, .ro,y0⟩,⟨8,false,false,(.own .ro),y2⟩,⟨15,false,false,(.pr (.own .ro) (.own .ro)),(.prod y2 y2)⟩]⟩) .nil .nil) .nil)) .nil))))) func174
def S165 (N:Nat):Sp:=⟨.none,[y1,y1],y1,1, .ro,fun _ x=>Px.Q138 N x.1 x.2.1⟩
theorem s165 (N:Nat):Sat prog 165 (S165 N):=sq (N:=N) (cn) .nil func165
def S251 (N:Nat):Sp:=⟨.none,[y0,y2,y1],y1,1, .ro,fun _ x=>Px.Q161 N x.1 x.2.1 x.2.2.1⟩
theorem s251 (N:Nat):Sat prog 251 (S251 N):=sq (N:=N) (cc (cc cn (s250 N)) (s165 N)) (.node none .nil (.node none .nil (.node none (.node none .nil (.node (some ⟨35,[(7, .val y1)],[]⟩) (.node (some ⟨35,[(1, .val y2),(2, .val y1),(3, .ptr 3 []),(7, .val y1),(8, .val y1)],[⟨3,true,false, .ro,y0⟩]⟩) .nil .nil) .nil)) .nil))) func251
def S215 (N:Nat):Sp:=⟨.none,[y0],y2,1,(.own .ro),fun _ x=>Px.Q160 N x.1⟩
theorem s215 (N:Nat):Sat prog 215 (S215 N):=sq (N:=N) (cc (cc cn (s251 N)) (s250 N)) (.node none .nil (.node none .nil (.node none (.node none .nil (.node (some ⟨63,[(3, .vw 8 [])],[⟨8,false,false,(.own .ro),y2⟩]⟩) (.node (some ⟨63,[(1, .ptr 1 []),(3, .vw 8 []),(4, .val y1)],[⟨1,true,false, .ro,y0⟩,⟨8,false,false,(.own .ro),y2⟩]⟩) (.node none .nil (.node none (.node none (.node none .nil (.node none (.node none .nil (.node (some ⟨63,[(1, .ptr 1 []),(3, .vw 8 []),(4, .val y1),(5, .val y1)],[⟨1,true,false, .ro,y0⟩,⟨8,false,false,(.own .ro),y2⟩]⟩) (.node (some ⟨63,[(1, .ptr 1 []),(3, .vw 8 []),(4, .val y1),(5, .val y1),(6, .val y1)],[⟨1,true,false, .ro,y0⟩,⟨8,false,false,(.own .ro),y2⟩]⟩) .nil .nil) .nil)) .nil)) .nil) .nil)) .nil) .nil)) .nil))) func215
def S175 (N:Nat):Sp:=⟨.none,[y0],y10,2,y8,fun _ x=>Px.Q100 N x.1⟩
theorem s175 (N:Nat):Sat prog 175 (S175 N):=sq (N:=N) (cc (cc cn (s215 N)) (s107 N)) .nil func175
def S123 (N:Nat):Sp:=⟨.none,[y4, .str], .str,1, .ro,fun _ x=>Px.Q133 N x.1 x.2.1⟩
theorem s123 (N:Nat):Sat prog 123 (S123 N):=sq (N:=N) (cc (cc (cc (cc (cc (cc (cc (cc (cc (cc (cc (cc (cc (cc (cc cn (s175 N)) (s174 N)) (s173 N)) (s172 N)) (s171 N)) (s170 N)) (s169 N)) (s168 N)) (s167 N)) (s131 N)) (s130 N)) (s127 N)) (s125 N)) (s111 N)) (s110 N)) .nil func123
def S84 (N:Nat):Sp:=⟨.none,[y4, .str],(.prod y4 .str),2, .ro,fun _ x=>Px.Q135 N x.1 x.2.1⟩
theorem s84 (N:Nat):Sat prog 84 (S84 N):=sq (N:=N) (cc (cc cn (s123 N)) (s87 N)) .nil func84
def S124 (N:Nat):Sp:=⟨.none,[.str],y13,2, .ro,fun _ x=>Px.Q141 N x.1⟩
theorem s124 (N:Nat):Sat prog 124 (S124 N):=sq (N:=N) (cc (cc cn (s111 N)) (s109 N)) (.node none .nil (.node none .nil (.node none (.node none (.node (some ⟨58,[(0, .val .str),(4, .val .str),(15, .val .bool)],[]⟩) .nil .nil) (.node (some ⟨58,[(0, .val .str),(4, .val .str)],[]⟩) .nil .nil)) (.node none .nil (.node none .nil (.node none (.node none .nil (.node (some ⟨58,[(0, .val .str),(4, .val .str),(5, .val y1)],[]⟩) (.node (some ⟨58,[(0, .val .str),(4, .val .str),(5, .val y1),(6, .val y1)],[]⟩) .nil .nil) .nil)) .nil)))))) func124
def S85 (N:Nat):Sp:=⟨.none,[y7],y10,2,y8,fun _ x=>Px.Q128 N x.1⟩
theorem s85 (N:Nat):Sat prog 85 (S85 N):=sq (N:=N) (cc cn (s124 N)) (.node none .nil (.node none .nil (.node none (.node none .nil (.node (some ⟨31,[(4, .vw 8 [])],[⟨8,false,false,(.own .ro),y2⟩]⟩) (.node (some ⟨31,[(0, .val y7),(4, .vw 8 []),(5, .val y1)],[⟨8,false,false,(.own .ro),y2⟩]⟩) .nil .nil) .nil)) .nil))) func85
def S216 (N:Nat):Sp:=⟨.none,[y0,y1,y1,y1], .bool,1, .ro,fun _ x=>Px.Q163 N x.1 x.2.1 x.2.2.1 x.2.2.2.1⟩
theorem s216 (N:Nat):Sat prog 216 (S216 N):=sq (N:=N) (cc (cc cn (s219 N)) (s218 N)) .nil func216
def S176 (N:Nat):Sp:=⟨.none,[y0,y1],y2,1,(.own .ro),fun _ x=>Px.Q165 N x.1 x.2.1⟩
theorem s176 (N:Nat):Sat prog 176 (S176 N):=sq (N:=N) (cc cn (s216 N)) (.node none .nil (.node none .nil (.node none .nil (.node none (.node none .nil (.node (some ⟨45,[(5, .vw 9 [])],[⟨9,false,false,(.own .ro),y2⟩]⟩) (.node (some ⟨45,[(1, .val y1),(2, .ptr 2 []),(5, .vw 9 []),(6, .val y1),(7, .val y1)],[⟨2,true,false, .ro,y0⟩,⟨9,false,false,(.own .ro),y2⟩]⟩) (.node none .nil (.node none (.node none .nil (.node none .nil (.node none (.node (some ⟨45,[(1, .val y1),(2, .ptr 2 []),(5, .vw 9 []),(6, .val y1),(7, .val y1),(8, .val y1)],[⟨2,true,false, .ro,y0⟩,⟨9,false,false,(.own .ro),y2⟩]⟩) (.node (some ⟨45,[(1, .val y1),(2, .ptr 2 []),(5, .vw 9 []),(6, .val y1),(7, .val y1),(8, .val y1)],[⟨2,true,false, .ro,y0⟩,⟨9,false,false,(.own .ro),y2⟩]⟩) .nil .nil) .nil) .nil))) .nil)) .nil) .nil)) .nil)))) func176
def S126 (N:Nat):Sp:=⟨.none,[y0,y1],y10,2,y8,fun _ x=>Px.Q105 N x.1 x.2.1⟩
theorem s126 (N:Nat):Sat prog 126 (S126 N):=sq (N:=N) (cc (cc (cc cn (s176 N)) (s109 N)) (s107 N)) .nil func126
def S128 (N:Nat):Sp:=⟨.none,[y0,y1],y13,2, .ro,fun _ x=>Px.Q104 N x.1 x.2.1⟩
theorem s128 (N:Nat):Sat prog 128 (S128 N):=sq (N:=N) (cc (cc (cc (cc (cc (cc cn (s179 N)) (s178 N)) (s177 N)) (s176 N)) (s109 N)) (s107 N)) .nil func128
def S220 (N:Nat):Sp:=⟨.none,[y0,y1], .bool,1, .ro,fun _ x=>Px.Q169 N x.1 x.2.1⟩
theorem s220 (N:Nat):Sat prog 220 (S220 N):=sq (N:=N) (cc (cc cn (s109 N)) (s107 N)) .nil func220
def S270 (N:Nat):Sp:=⟨.none,[y0,y1,y2,y1],y1,1, .ro,fun _ x=>Px.Q170 N x.1 x.2.1 x.2.2.1 x.2.2.2.1⟩
theorem s270 (N:Nat):Sat prog 270 (S270 N):=sq (N:=N) (cc cn (s250 N)) (.node none .nil (.node none .nil (.node none (.node none .nil (.node (some ⟨46,[(9, .val y1)],[]⟩) (.node (some ⟨46,[(1, .val y1),(2, .val y2),(3, .val y1),(4, .ptr 4 []),(9, .val y1),(10, .val y1)],[⟨4,true,false, .ro,y0⟩]⟩) .nil .nil) .nil)) .nil))) func270
def S253 (N:Nat):Sp:=⟨.none,[y0,y1,y2],y1,1, .ro,fun _ x=>Px.Q168 N x.1 x.2.1 x.2.2.1⟩
theorem s253 (N:Nat):Sat prog 253 (S253 N):=sq (N:=N) (cc cn (s270 N)) (.node none .nil (.node none .nil (.node none (.node none .nil (.node (some ⟨65,[(1, .val y1),(2, .val y2),(3, .ptr 3 []),(7, .val y1)],[⟨3,true,false, .ro,y0⟩]⟩) (.node (some ⟨65,[(1, .val y1),(2, .val y2),(3, .ptr 3 []),(7, .val y1),(8, .val y1)],[⟨3,true,false, .ro,y0⟩]⟩) .nil .nil) .nil)) (.node none (.node none .nil (.node (some ⟨65,[(7, .val y1)],[]⟩) (.node (some ⟨65,[(1, .val y1),(2, .val y2),(3, .ptr 3 []),(7, .val y1),(9, .val y1)],[⟨3,true,false, .ro,y0⟩]⟩) (.node none .nil (.node none (.node none (.node none .nil (.node none (.node none (.node (some ⟨65,[(1, .val y1),(2, .val y2),(3, .ptr 3 []),(7, .val y1),(9, .val y1),(10, .val y1),(48, .val .bool)],[⟨3,true,false, .ro,y0⟩]⟩) .nil .nil) .nil) .nil)) .nil) .nil)) .nil) .nil)) .nil)))) func253
def S221 (N:Nat):Sp:=⟨.none,[y0,y1],(.prod y2 y1),2,y8,fun _ x=>Px.Q167 N x.1 x.2.1⟩
theorem s221 (N:Nat):Sat prog 221 (S221 N):=sq (N:=N) (cc (cc (cc cn (s253 N)) (s249 N)) (s247 N)) (.node none .nil (.node none .nil (.node none (.node none .nil (.node (some ⟨54,[(6, .vw 11 []),(7, .val y1)],[⟨11,false,false,(.own .ro),y2⟩]⟩) (.node (some ⟨54,[(1, .val y1),(2, .ptr 2 []),(6, .vw 11 []),(7, .val y1),(8, .val y1)],[⟨2,true,false, .ro,y0⟩,⟨11,false,false,(.own .ro),y2⟩]⟩) .nil .nil) .nil)) .nil))) func221
def S180 (N:Nat):Sp:=⟨.none,[y0,y1],(.prod y2 y13),3,y8,fun _ x=>Px.Q97 N x.1 x.2.1⟩
theorem s180 (N:Nat):Sat prog 180 (S180 N):=sq (N:=N) (cc (cc cn (s221 N)) (s220 N)) .nil func180
def S129 (N:Nat):Sp:=⟨.none,[y4,y1], .str,1, .ro,fun _ x=>Px.Q116 N x.1 x.2.1⟩
theorem s129 (N:Nat):Sat prog 129 (S129 N):=sq (N:=N) (cc (cc cn (s180 N)) (s127 N)) .nil func129
def S86 (N:Nat):Sp:=⟨.none,[y4, .str,y1], .str,1, .ro,fun _ x=>Px.Q124 N x.1 x.2.1 x.2.2.1⟩
theorem s86 (N:Nat):Sat prog 86 (S86 N):=sq (N:=N) (cc (cc (cc (cc (cc cn (s129 N)) (s128 N)) (s127 N)) (s126 N)) (s125 N)) .nil func86
def S53 (N:Nat):Sp:=⟨.none,[y4, .str],(.prod y4 .str),2, .ro,fun _ x=>Px.Q115 N x.1 x.2.1⟩
theorem s53 (N:Nat):Sat prog 53 (S53 N):=sq (N:=N) (cc (cc (cc (cc (cc cn (s87 N)) (s86 N)) (s85 N)) (s84 N)) (s62 N)) .nil func53
def S54 (N:Nat):Sp:=⟨.none,[y5,y11],(.prod y5 y1),2, .ro,fun _ x=>Px.Q95 N x.1 x.2.1⟩
theorem s54 (N:Nat):Sat prog 54 (S54 N):=sq (N:=N) (cc (cc (cc cn (s88 N)) (s52 N)) (s45 N)) .nil func54
def S16 (N:Nat):Sp:=⟨.none,[y12, .str],(.prod y12 .str),2,(.pr (.pr y3 .ro) .ro),fun _ x=>Px.Q99 N x.1 x.2.1⟩
theorem s16 (N:Nat):Sat prog 16 (S16 N):=sq (N:=N) (cc (cc (cc (cc (cc cn (s54 N)) (s53 N)) (s52 N)) (s51 N)) (s36 N)) .nil func16
def S22 (N:Nat):Sp:=⟨.none,[y12, .str],(.prod y7 .bool),2,y8,fun _ x=>Px.Q106 N x.1 x.2.1⟩
theorem s22 (N:Nat):Sat prog 22 (S22 N):=sq (N:=N) (cc (cc (cc cn (s62 N)) (s36 N)) (s16 N)) (.node none .nil (.node none .nil (.node none .nil (.node none .nil (.node none .nil (.node none (.node none .nil (.node (some ⟨48,[(6, .vw 11 [])],[⟨11,false,false,(.own .ro),y7⟩]⟩) (.node (some ⟨48,[(2, .ptr 2 []),(6, .vw 11 []),(7, .vw 22 []),(8, .val y1)],[⟨2,true,false, .ro,y12⟩,⟨11,false,false,(.own .ro),y7⟩,⟨22,false,false,(.own .ro),y7⟩]⟩) .nil .nil) .nil)) .nil)))))) func22
def S105 (N:Nat):Sp:=⟨.none,[y1,y1,y1], .bool,1, .ro,fun _ x=>Px.Q67 N x.1 x.2.1 x.2.2.1⟩
theorem s105 (N:Nat):Sat prog 105 (S105 N):=sq (N:=N) (cn) .nil func105
def S104 (N:Nat):Sp:=⟨.none,[y2,y1,y1], .bool,1, .ro,fun _ x=>Px.Q51 N x.1 x.2.1 x.2.2.1⟩
theorem s104 (N:Nat):Sat prog 104 (S104 N):=sq (N:=N) (cc cn (s105 N)) (.node none .nil (.node none (.node none .nil (.node (some ⟨21,[],[]⟩) (.node (some ⟨21,[(1, .val y1),(2, .val y1),(9, .val y2),(10, .val y1),(11, .val y1)],[]⟩) .nil .nil) .nil)) .nil)) func104
def S103 (N:Nat):Sp:=⟨.none,[y0], .bool,1, .ro,fun _ x=>Px.Q31 N x.1⟩
theorem s103 (N:Nat):Sat prog 103 (S103 N):=sq (N:=N) (cc cn (s104 N)) .nil func103
def S158 (N:Nat):Sp:=⟨.none,[y2],y1,1, .ro,fun _ x=>Px.Q66 N x.1⟩
theorem s158 (N:Nat):Sat prog 158 (S158 N):=sq (N:=N) (cn) (.node none .nil (.node none .nil (.node none (.node none .nil (.node (some ⟨17,[(3, .val y1)],[]⟩) (.node (some ⟨17,[(3, .val y1),(6, .val y2),(7, .val y1),(8, .val y1)],[]⟩) .nil .nil) .nil)) .nil))) func158
def S106 (N:Nat):Sp:=⟨.none,[y4,y1],y1,1, .ro,fun _ x=>Px.Q40 N x.1 x.2.1⟩
theorem s106 (N:Nat):Sat prog 106 (S106 N):=sq (N:=N) (cc cn (s158 N)) .nil func106
def S66 (N:Nat):Sp:=⟨.none,[y4], .bool,1, .ro,fun _ x=>Px.Q32 N x.1⟩
theorem s66 (N:Nat):Sat prog 66 (S66 N):=sq (N:=N) (cc (cc (cc (cc cn (s106 N)) (s105 N)) (s104 N)) (s103 N)) (.node none .nil (.node none .nil (.node none (.node none .nil (.node (some ⟨44,[],[]⟩) (.node (some ⟨44,[(1, .ptr 1 []),(34, .val y1),(35, .val y1)],[⟨1,true,false, .ro,y4⟩]⟩) .nil .nil) .nil)) .nil))) func66
def S133 (N:Nat):Sp:=⟨.none,[.str, .str], .bool,1, .ro,fun _ x=>Px.strings_ContainsAny N x.1 x.2.1⟩
theorem s133 (N:Nat):Sat prog 133 (S133 N):=Zgo func133 (by kernel_rfl) (by kernel_rfl) strings_ContainsAny_laid
def S90 (N:Nat):Sp:=⟨.none,[.str,y1, .str], .bool,1, .ro,fun _ x=>Px.Q60 N x.1 x.2.1 x.2.2.1⟩
theorem s90 (N:Nat):Sat prog 90 (S90 N):=sq (N:=N) (cc cn (s133 N)) (.node none .nil (.node none (.node none .nil (.node (some ⟨34,[(0, .val .str),(1, .val y1),(2, .val .str)],[]⟩) (.node (some ⟨34,[(0, .val .str),(1, .val y1),(2, .val .str),(9, .val y1),(10, .val y1)],[]⟩) .nil .nil) .nil)) .nil)) func90
def S56 (N:Nat):Sp:=⟨.none,[.str], .bool,1, .ro,fun _ x=>Px.Q58 N x.1⟩
theorem s56 (N:Nat):Sat prog 56 (S56 N):=sq (N:=N) (cc cn (s90 N)) .nil func56
def S96 (N:Nat):Sp:=⟨.none,[y11], .bool,1, .ro,fun _ x=>Px.Q35 N x.1⟩
theorem s96 (N:Nat):Sat prog 96 (S96 N):=sq (N:=N) (cc (cc cn (s90 N)) (s56 N)) .nil func96
def S135 (N:Nat):Sp:=⟨.none,[y1], .str,1, .ro,fun _ x=>Px.strconv_Itoa N x.1⟩
theorem s135 (N:Nat):Sat prog 135 (S135 N):=ZnP gm func135 (by kernel_rfl) (by kernel_rfl) strconv_Itoa
def S204 (N:Nat):Sp:=⟨.none,[.str, .str], .bool,1, .ro,fun _ x=>Px.strings_Contains N x.1 x.2.1⟩
theorem s204 (N:Nat):Sat prog 204 (S204 N):=Zjk gm func204 (by kernel_rfl) (by kernel_rfl) strings_Contains
def S205 (N:Nat):Sp:=⟨.none,[.str],y1,1, .ro,fun _ x=>Px.Q54 N x.1⟩
theorem s205 (N:Nat):Sat prog 205 (S205 N):=sq (N:=N) (cn) (.node none .nil (.node none .nil (.node none (.node none .nil (.node (some ⟨21,[(3, .val y1)],[]⟩) (.node (some ⟨21,[(0, .val .str),(3, .val y1),(6, .val y1),(7, .val y1)],[]⟩) .nil .nil) .nil)) .nil))) func205
def S154 (N:Nat):Sp:=⟨.none,[.str],y14,2, .ro,fun _ x=>Px.Q3 N x.1⟩
theorem s154 (N:Nat):Sat prog 154 (S154 N):=sq (N:=N) (cc (cc (cc cn (s205 N)) (s204 N)) (s135 N)) .nil func154
def S97 (N:Nat):Sp:=⟨.none,[y1,y11],y14,2, .ro,fun _ x=>Px.Q25 N x.1 x.2.1⟩
theorem s97 (N:Nat):Sat prog 97 (S97 N):=sq (N:=N) (cc (cc (cc (cc cn (s154 N)) (s135 N)) (s105 N)) (s96 N)) .nil func97
def S115 (N:Nat):Sp:=⟨.none,[.str, .str],(.prod .str y14),3, .ro,fun _ x=>Px.strings_Cut N x.1 x.2.1⟩
theorem s115 (N:Nat):Sat prog 115 (S115 N):=Zo0 gm func115 (by kernel_rfl) (by kernel_rfl) strings_Cut
def S116 (N:Nat):Sp:=⟨.none,[.str],y14,2, .ro,fun _ x=>Px.Q49 N x.1⟩
theorem s116 (N:Nat):Sat prog 116 (S116 N):=sq (N:=N) (cc (cc cn (s154 N)) (s115 N)) .nil func116
def S71 (N:Nat):Sp:=⟨.none,[.str],(.prod (.slice 70 y11) y2),2,(.pr (.own .ro) (.own .ro)),fun _ x=>Px.Q63 N x.1⟩
theorem s71 (N:Nat):Sat prog 71 (S71 N):=sq (N:=N) (cc (cc (cc cn (s116 N)) (s115 N)) (s97 N)) (.node none .nil (.node none .nil (.node none (.node (some ⟨83,[(4, .vw 18 []),(5, .vw 19 [])],[⟨18,false,false,(.own .ro),(.slice 70 y11)⟩,⟨19,false,false,(.own .ro),y2⟩]⟩) (.node (some ⟨83,[(0, .val .str),(4, .vw 18 []),(5, .vw 19 []),(6, .val y1)],[⟨18,false,false,(.own .ro),(.slice 70 y11)⟩,⟨19,false,false,(.own .ro),y2⟩]⟩) .nil .nil) .nil) .nil))) func71
def S159 (N:Nat):Sp:=⟨.none,[y2,y1],y1,1, .ro,fun _ x=>Px.Q94 N x.1 x.2.1⟩
theorem s159 (N:Nat):Sat prog 159 (S159 N):=sq (N:=N) (cn) (.node none .nil (.node none (.node none .nil (.node (some ⟨19,[],[]⟩) (.node (some ⟨19,[(0, .val y2),(1, .val y1),(7, .val y1),(8, .val y1)],[]⟩) .nil .nil) .nil)) .nil)) func159
def S114 (N:Nat):Sp:=⟨.none,[y2,y1], .bool,1, .ro,fun _ x=>Px.Q93 N x.1 x.2.1⟩
theorem s114 (N:Nat):Sat prog 114 (S114 N):=sq (N:=N) (cc cn (s159 N)) .nil func114
def S70 (N:Nat):Sp:=⟨.none,[y5], .bool,1, .ro,fun _ x=>Px.Q34 N x.1⟩
theorem s70 (N:Nat):Sat prog 70 (S70 N):=sq (N:=N) (cc (cc cn (s114 N)) (s71 N)) .nil func70
def S35 (N:Nat):Sp:=⟨.none,[y12], .bool,1, .ro,fun _ x=>Px.Q33 N x.1⟩
theorem s35 (N:Nat):Sat prog 35 (S35 N):=sq (N:=N) (cc (cc cn (s70 N)) (s66 N)) .nil func35
def S89 (N:Nat):Sp:=⟨.none,[y2],y2,1,(.own .ro),fun _ x=>Px.Q55 N x.1⟩
theorem s89 (N:Nat):Sat prog 89 (S89 N):=sq (N:=N) (cn) .nil func89
def S55 (N:Nat):Sp:=⟨.none,[y4],y4,1,y3,fun _ x=>Px.Q38 N x.1⟩
theorem s55 (N:Nat):Sat prog 55 (S55 N):=sq (N:=N) (cc cn (s89 N)) .nil func55
def S63 (N:Nat):Sp:=⟨.none,[.str, .str],y7,1,(.own .ro),fun _ x=>Px.strings_Split N x.1 x.2.1⟩
theorem s63 (N:Nat):Sat prog 63 (S63 N):=Zmw gm func63 (by kernel_rfl) (by kernel_rfl) strings_Split
def S134 (N:Nat):Sp:=⟨.none,[.str],(.prod y1 .err),2, .ro,fun _ x=>Px.strconv_Atoi N x.1⟩
theorem s134 (N:Nat):Sat prog 134 (S134 N):=ZnR gm ge func134 (by kernel_rfl) (by kernel_rfl) (by kernel_rfl) strconv_Atoi (fun s hs ho ev w hc hv=>(strconv_Atoi_err s hs ho ev w hc hv).mono fun e1 w' ⟨n,h1,_,_,h4⟩=>⟨⟨_,_,h1⟩,h4⟩)
def S91 (N:Nat):Sp:=⟨.none,[.str],y13,2, .ro,fun _ x=>Px.Q42 N x.1⟩
theorem s91 (N:Nat):Sat prog 91 (S91 N):=sq (N:=N) (cc (cc (cc cn (s135 N)) (s134 N)) (s105 N)) .nil func91
def S92 (N:Nat):Sp:=⟨.none,[.str,y2],(.prod y6 .bool),2, .ro,fun _ x=>Px.impl_actOf N x.1 x.2.1⟩
theorem s92 (N:Nat):Sat prog 92 (S92 N):=Zmy func92 (by kernel_rfl) (by kernel_rfl) (act_walk fun b off n c zs x w h1 h2 h3=>slices_Index_string b off n c zs x w h1 h2 h3)
def S186 (N:Nat):Sp:=⟨.none,[y0,y1,y1],y0,1,y9,fun _ x=>Px.Q14 N x.1 x.2.1 x.2.2.1⟩
theorem s186 (N:Nat):Sat prog 186 (S186 N):=sq (N:=N) (cc cn (s89 N)) .nil func186
def S187 (N:Nat):Sp:=⟨.none,[y4],y2,1,(.own .ro),fun _ x=>Px.Q37 N x.1⟩
theorem s187 (N:Nat):Sat prog 187 (S187 N):=sq (N:=N) (cc cn (s106 N)) (.node none .nil (.node none .nil (.node none (.node none .nil (.node (some ⟨38,[(3, .vw 8 [])],[⟨8,false,false,(.own .ro),y2⟩]⟩) (.node (some ⟨38,[(3, .vw 8 []),(4, .val y1),(18, .val y2),(19, .val y1),(20, .val y1)],[⟨8,false,false,(.own .ro),y2⟩]⟩) .nil .nil) .nil)) .nil))) func187
def S189 (N:Nat):Sp:=⟨.none,[y0,y2],y10,2,y8,fun _ x=>Px.Q20 N x.1 x.2.1⟩
theorem s189 (N:Nat):Sat prog 189 (S189 N):=sq (N:=N) (cn) (.node none .nil (.node none .nil (.node none (.node none .nil (.node (some ⟨53,[(6, .vw 13 [])],[⟨13,false,false,(.own .ro),y2⟩]⟩) (.node (some ⟨53,[(1, .val y2),(6, .vw 13 []),(7, .val y1),(15, .val y2),(16, .val y1),(17, .val y1)],[⟨13,false,false,(.own .ro),y2⟩]⟩) (.node none .nil (.node none .nil (.node none (.node none (.node none .nil (.node none (.node none (.node (some ⟨53,[(1, .val y2),(6, .vw 13 []),(7, .val y1),(9, .val y1),(15, .val y2),(16, .val y1),(17, .val y1),(33, .val .bool)],[⟨13,false,false,(.own .ro),y2⟩]⟩) .nil .nil) (.node (some ⟨53,[(1, .val y2),(6, .vw 13 []),(7, .val y1),(9, .val y1),(15, .val y2),(16, .val y1),(17, .val y1)],[⟨13,false,false,(.own .ro),y2⟩]⟩) .nil .nil)) .nil)) .nil) .nil))) .nil) .nil)) .nil))) func189
def S237 (N:Nat):Sp:=⟨.none,[y0,y2],(.prod y1 (.prod y1 y1)),3, .ro,fun _ x=>Px.Q19 N x.1 x.2.1⟩
theorem s237 (N:Nat):Sat prog 237 (S237 N):=sq (N:=N) (cn) (.node none .nil (.node none .nil (.node none (.node none .nil (.node (some ⟨60,[(7, .val y1),(8, .val y1),(9, .val y1)],[]⟩) (.node (some ⟨60,[(2, .ptr 2 []),(7, .val y1),(8, .val y1),(9, .val y1),(10, .val y1),(13, .val y2),(14, .val y1),(15, .val y1)],[⟨2,true,false, .ro,y0⟩]⟩) (.node none .nil (.node none .nil (.node none (.node none (.node none .nil (.node none .nil (.node none (.node none .nil (.node (some ⟨60,[(2, .ptr 2 []),(7, .val y1),(8, .val y1),(9, .val y1),(10, .val y1),(11, .val y1),(12, .val y1),(13, .val y2),(14, .val y1),(15, .val y1)],[⟨2,true,false, .ro,y0⟩]⟩) .nil .nil)) .nil))) .nil) .nil))) .nil) .nil)) .nil))) func237
def S194 (N:Nat):Sp:=⟨.none,[y0,y2],y1,1, .ro,fun _ x=>Px.Q13 N x.1 x.2.1⟩
theorem s194 (N:Nat):Sat prog 194 (S194 N):=sq (N:=N) (cc cn (s237 N)) .nil func194
def S278 (N:Nat):Sp:=⟨.none,[y1], .bool,1, .ro,fun _ x=>Px.Q1 N x.1⟩
theorem s278 (N:Nat):Sat prog 278 (S278 N):=sq (N:=N) (cn) .nil func278
def S263 (N:Nat):Sp:=⟨.none,[y1,y1],y1,1, .ro,fun _ x=>Px.Q0 N x.1 x.2.1⟩
theorem s263 (N:Nat):Sat prog 263 (S263 N):=sq (N:=N) (cc cn (s278 N)) .nil func263
def S232 (N:Nat):Sp:=⟨.none,[y2,y2],y1,1, .ro,fun _ x=>Px.Q92 N x.1 x.2.1⟩
theorem s232 (N:Nat):Sat prog 232 (S232 N):=sq (N:=N) (cc cn (s263 N)) (.node none .nil (.node none (.node none .nil (.node (some ⟨36,[(0, .val y2),(1, .val y2)],[]⟩) (.node (some ⟨36,[(0, .val y2),(1, .val y2),(9, .val y2),(10, .val y1),(11, .val y1)],[]⟩) .nil .nil) .nil)) .nil)) func232
def S188 (N:Nat):Sp:=⟨.none,[y0],(.prod y2 y1),2,y8,fun _ x=>Px.Q9 N x.1⟩
theorem s188 (N:Nat):Sat prog 188 (S188 N):=sq (N:=N) (cc (cc (cc cn (s232 N)) (s194 N)) (s189 N)) (.node none .nil (.node none .nil (.node none (.node none .nil (.node (some ⟨86,[(4, .vw 4 []),(5, .val y1)],[⟨4,false,false,(.own .ro),y2⟩]⟩) (.node (some ⟨86,[(1, .ptr 1 []),(4, .vw 4 []),(5, .val y1),(16, .val y1),(17, .val y1)],[⟨1,true,false, .ro,y0⟩,⟨4,false,false,(.own .ro),y2⟩]⟩) (.node none .nil (.node none .nil (.node none (.node none (.node none .nil (.node none .nil (.node none (.node none .nil (.node (some ⟨86,[(1, .ptr 1 []),(4, .vw 4 []),(5, .val y1),(7, .vw 20 []),(16, .val y1),(17, .val y1)],[⟨1,true,false, .ro,y0⟩,⟨4,false,false,(.own .ro),y2⟩,⟨20,false,false,(.own .ro),y2⟩]⟩) (.node (some ⟨86,[(1, .ptr 1 []),(4, .vw 4 []),(5, .val y1),(6, .val y1),(7, .vw 20 []),(16, .val y1),(17, .val y1),(23, .val y1),(24, .val y1)],[⟨1,true,false, .ro,y0⟩,⟨4,false,false,(.own .ro),y2⟩,⟨20,false,false,(.own .ro),y2⟩]⟩) .nil .nil) .nil)) (.node none .nil (.node none .nil (.node none .nil (.node none (.node (some ⟨86,[(1, .ptr 1 []),(4, .vw 4 []),(5, .val y1),(7, .vw 20 []),(11, .val y1),(12, .val .bool),(16, .val y1),(17, .val y1)],[⟨1,true,false, .ro,y0⟩,⟨4,false,false,(.own .ro),y2⟩,⟨20,false,false,(.own .ro),y2⟩]⟩) .nil .nil) .nil))))))) .nil) .nil))) .nil) .nil)) .nil))) func188
def S137 (N:Nat):Sp:=⟨(.ptr y4 y3 y3),[y6], .bool,1, .ro,fun g x=>Px.Q91 N g x.1⟩
theorem s137 (N:Nat):Sat prog 137 (S137 N):=sq (N:=N) (cc (cc (cc (cc (cc cn (s189 N)) (s188 N)) (s187 N)) (s186 N)) (s105 N)) (.node none .nil (.node none .nil (.node none (.node (some ⟨217,[(0, .ptr 0 []),(3, .ptr 3 []),(5, .ptr 0 [.fst]),(6, .val .bool)],[⟨0,true,false,y3,y4⟩,⟨3,true,false, .ro,y6⟩]⟩) .nil .nil) (.node none (.node (some ⟨217,[(0, .ptr 0 []),(3, .ptr 3 []),(5, .ptr 0 [.fst]),(6, .val .bool),(7, .val .bool)],[⟨0,true,false,y3,y4⟩,⟨3,true,false, .ro,y6⟩]⟩) .nil .nil) .nil)))) func137
def S93 (N:Nat):Sp:=⟨.none,[y4,y6],(.prod y4 .bool),2,(.pr y3 .ro),fun _ x=>Px.Q2 N x.1 x.2.1⟩
theorem s93 (N:Nat):Sat prog 93 (S93 N):=sq (N:=N) (cc (cc (cc cn (s137 N)) (s66 N)) (s55 N)) .nil func93
def S190 (N:Nat):Sp:=⟨.none,[y1],y14,2, .ro,fun _ x=>Px.Q28 N x.1⟩
theorem s190 (N:Nat):Sat prog 190 (S190 N):=sq (N:=N) (cc (cc cn (s135 N)) (s105 N)) .nil func190
def S138 (N:Nat):Sp:=⟨.none,[y1, .bool],y14,2, .ro,fun _ x=>Px.Q62 N x.1 x.2.1⟩
theorem s138 (N:Nat):Sat prog 138 (S138 N):=sq (N:=N) (cc cn (s190 N)) .nil func138
def S139 (N:Nat):Sp:=⟨.none,[y4],y13,2, .ro,fun _ x=>Px.Q47 N x.1⟩
theorem s139 (N:Nat):Sat prog 139 (S139 N):=sq (N:=N) (cc (cc cn (s106 N)) (s66 N)) .nil func139
def S191 (N:Nat):Sp:=⟨.none,[y7, .str], .str,1, .ro,fun _ x=>Px.strings_Join N x.1 x.2.1⟩
theorem s191 (N:Nat):Sat prog 191 (S191 N):=ZnQ func191 (by kernel_rfl) (by kernel_rfl) strings_Join_none strings_Join
def S140 (N:Nat):Sp:=⟨.none,[y2, .bool],y14,2, .ro,fun _ x=>Px.Q61 N x.1 x.2.1⟩
theorem s140 (N:Nat):Sat prog 140 (S140 N):=sq (N:=N) (cc (cc cn (s191 N)) (s190 N)) (.node none .nil (.node none .nil (.node none .nil (.node none (.node none .nil (.node (some ⟨37,[(6, .vw 13 [])],[⟨13,false,false,(.own .ro),y7⟩]⟩) (.node (some ⟨37,[(6, .vw 13 []),(14, .val y2),(15, .val y1),(16, .val y1)],[⟨13,false,false,(.own .ro),y7⟩]⟩) .nil .nil) .nil)) .nil)))) func140
def S192 (N:Nat):Sp:=⟨.none,[y4],y2,1,(.own .ro),fun _ x=>Px.Q39 N x.1⟩
theorem s192 (N:Nat):Sat prog 192 (S192 N):=sq (N:=N) (cc cn (s106 N)) (.node none .nil (.node none .nil (.node none (.node none .nil (.node (some ⟨25,[(3, .vw 5 [])],[⟨5,false,false,(.own .ro),y2⟩]⟩) (.node (some ⟨25,[(1, .ptr 1 []),(3, .vw 5 []),(4, .val y1)],[⟨1,true,false, .ro,y4⟩,⟨5,false,false,(.own .ro),y2⟩]⟩) .nil .nil) .nil)) .nil))) func192
def S141 (N:Nat):Sp:=⟨.none,[y4],y10,2,y8,fun _ x=>Px.Q46 N x.1⟩
theorem s141 (N:Nat):Sat prog 141 (S141 N):=sq (N:=N) (cc (cc cn (s192 N)) (s66 N)) .nil func141
def S94 (N:Nat):Sp:=⟨.none,[y4,y1],y14,2, .ro,fun _ x=>Px.Q50 N x.1 x.2.1⟩
theorem s94 (N:Nat):Sat prog 94 (S94 N):=sq (N:=N) (cc (cc (cc (cc cn (s141 N)) (s140 N)) (s139 N)) (s138 N)) .nil func94
def S202 (N:Nat):Sp:=⟨.none,[y0,y1,y1],y1,1, .ro,fun _ x=>Px.Q21 N x.1 x.2.1 x.2.2.1⟩
theorem s202 (N:Nat):Sat prog 202 (S202 N):=sq (N:=N) (cc cn (s158 N)) .nil func202
def S238 (N:Nat):Sp:=⟨.none,[y0,y1,y1],y1,1, .ro,fun _ x=>Px.Q22 N x.1 x.2.1 x.2.2.1⟩
theorem s238 (N:Nat):Sat prog 238 (S238 N):=sq (N:=N) (cc (cc cn (s202 N)) (s158 N)) (.node none .nil (.node none .nil (.node none .nil (.node none (.node none .nil (.node (some ⟨40,[(7, .val y1)],[]⟩) (.node (some ⟨40,[(1, .val y1),(2, .val y1),(3, .ptr 3 []),(7, .val y1),(8, .val y1)],[⟨3,true,false, .ro,y0⟩]⟩) .nil .nil) .nil)) .nil)))) func238
def S236 (N:Nat):Sp:=⟨.none,[y0,y1,y1,y1], .bool,1, .ro,fun _ x=>Px.Q17 N x.1 x.2.1 x.2.2.1 x.2.2.2.1⟩
theorem s236 (N:Nat):Sat prog 236 (S236 N):=sq (N:=N) (cc (cc cn (s238 N)) (s158 N)) .nil func236
def S193 (N:Nat):Sp:=⟨.none,[y0,y1],y2,1,(.own .ro),fun _ x=>Px.Q11 N x.1 x.2.1⟩
theorem s193 (N:Nat):Sat prog 193 (S193 N):=sq (N:=N) (cc cn (s236 N)) (.node none .nil (.node none .nil (.node none (.node none .nil (.node (some ⟨44,[(5, .vw 9 [])],[⟨9,false,false,(.own .ro),y2⟩]⟩) (.node (some ⟨44,[(1, .val y1),(2, .ptr 2 []),(5, .vw 9 []),(6, .val y1),(7, .val y1)],[⟨2,true,false, .ro,y0⟩,⟨9,false,false,(.own .ro),y2⟩]⟩) (.node none .nil (.node none (.node none .nil (.node none .nil (.node none .nil (.node none (.node (some ⟨44,[(1, .val y1),(2, .ptr 2 []),(5, .vw 9 []),(6, .val y1),(8, .val y1)],[⟨2,true,false, .ro,y0⟩,⟨9,false,false,(.own .ro),y2⟩]⟩) (.node (some ⟨44,[(1, .val y1),(2, .ptr 2 []),(5, .vw 9 []),(6, .val y1),(7, .val y1),(8, .val y1)],[⟨2,true,false, .ro,y0⟩,⟨9,false,false,(.own .ro),y2⟩]⟩) .nil .nil) .nil) .nil)))) .nil)) .nil) .nil)) .nil))) func193
def S142 (N:Nat):Sp:=⟨.none,[y0,y1],y10,2,y8,fun _ x=>Px.Q44 N x.1 x.2.1⟩
theorem s142 (N:Nat):Sat prog 142 (S142 N):=sq (N:=N) (cc (cc (cc cn (s193 N)) (s105 N)) (s103 N)) .nil func142
def S195 (N:Nat):Sp:=⟨.none,[y0],y2,1,(.own .ro),fun _ x=>Px.Q8 N x.1⟩
theorem s195 (N:Nat):Sat prog 195 (S195 N):=sq (N:=N) (cc cn (s238 N)) (.node none .nil (.node none .nil (.node none .nil (.node none (.node none .nil (.node (some ⟨51,[(4, .vw 12 [])],[⟨12,false,false,(.own .ro),y2⟩]⟩) (.node (some ⟨51,[(1, .ptr 1 []),(3, .val y1),(4, .vw 12 []),(5, .val y1)],[⟨1,true,false, .ro,y0⟩,⟨12,false,false,(.own .ro),y2⟩]⟩) (.node none .nil (.node none (.node none (.node none .nil (.node none .nil (.node (some ⟨51,[(1, .ptr 1 []),(3, .val y1),(4, .vw 12 []),(5, .val y1)],[⟨1,true,false, .ro,y0⟩,⟨12,false,false,(.own .ro),y2⟩]⟩) (.node (some ⟨51,[(1, .ptr 1 []),(3, .val y1),(4, .vw 12 []),(5, .val y1),(6, .val y1)],[⟨1,true,false, .ro,y0⟩,⟨12,false,false,(.own .ro),y2⟩]⟩) .nil .nil) .nil))) .nil) .nil)) .nil) .nil)) .nil)))) func195
def S143 (N:Nat):Sp:=⟨.none,[y0,y1],y13,2, .ro,fun _ x=>Px.Q43 N x.1 x.2.1⟩
theorem s143 (N:Nat):Sat prog 143 (S143 N):=sq (N:=N) (cc (cc (cc (cc (cc (cc cn (s195 N)) (s194 N)) (s193 N)) (s189 N)) (s105 N)) (s103 N)) .nil func143
def S196 (N:Nat):Sp:=⟨.none,[y1], .bool,1, .ro,fun _ x=>Px.Q59 N x.1⟩
theorem s196 (N:Nat):Sat prog 196 (S196 N):=sq (N:=N) (cc cn (s105 N)) .nil func196
def S267 (N:Nat):Sp:=⟨.none,[y2,y2],y1,1, .ro,fun _ x=>Px.Q65 N x.1 x.2.1⟩
theorem s267 (N:Nat):Sat prog 267 (S267 N):=sq (N:=N) (cc cn (s232 N)) .nil func267
def S17498379 (N:Nat):Sp:=⟨(.«mut» (.slice 22 y2) (.own .ro) (.own .ro)),[], .bool,0, .ro,fun g _=>Px.slices_SortFunc_int_int__impl_sets_1 N g⟩
theorem s17498379 (N:Nat):SatT prog 266 (some 267) (S17498379 N):=Zjr func266 (by kernel_rfl) (by kernel_rfl) sort_none sort_total sort_less
def S239 (N:Nat):Sp:=⟨.none,[y1],(.slice 22 y2),1,(.own .ro),fun _ x=>Px.Q64 N x.1⟩
theorem s239 (N:Nat):Sat prog 239 (S239 N):=sq (N:=N) (Zmp (cc (Zmr (m:=17498379) tabs cn (s17498379 N)) (s267 N)) [30]) (.node none .nil (.node none .nil (.node none (.node none .nil (.node (some ⟨36,[(3, .vw 7 [])],[⟨7,false,false,(.own .ro),(.slice 22 y2)⟩]⟩) (.node (some ⟨36,[(0, .val y1),(3, .vw 7 []),(9, .val y1),(10, .val y1)],[⟨7,false,false,(.own .ro),(.slice 22 y2)⟩]⟩) (.node none .nil (.node none .nil (.node none (.node none (.node none .nil (.node none .nil (.node none (.node none .nil (.node (some ⟨36,[(0, .val y1),(3, .vw 7 []),(5, .vw 13 []),(9, .val y1),(10, .val y1)],[⟨7,false,false,(.own .ro),(.slice 22 y2)⟩,⟨13,false,false,(.own .ro),y2⟩]⟩) (.node (some ⟨36,[(0, .val y1),(3, .vw 7 []),(4, .val y1),(5, .vw 13 []),(9, .val y1),(10, .val y1),(14, .val y1),(15, .val y1)],[⟨7,false,false,(.own .ro),(.slice 22 y2)⟩,⟨13,false,false,(.own .ro),y2⟩]⟩) .nil .nil) .nil)) .nil))) .nil) .nil))) .nil) .nil)) .nil))) func239
def S240 (N:Nat):Sp:=⟨.none,[y0,y1,y2],y13,2, .ro,fun _ x=>Px.Q16 N x.1 x.2.1 x.2.2.1⟩
theorem s240 (N:Nat):Sat prog 240 (S240 N):=sq (N:=N) (cc (cc cn (s202 N)) (s105 N)) (.node none .nil (.node none .nil (.node none (.node none .nil (.node (some ⟨69,[(1, .val y1),(2, .val y2),(3, .ptr 3 []),(8, .val y1)],[⟨3,true,false, .ro,y0⟩]⟩) (.node (some ⟨69,[(1, .val y1),(2, .val y2),(3, .ptr 3 []),(8, .val y1),(16, .val y2),(17, .val y1),(18, .val y1)],[⟨3,true,false, .ro,y0⟩]⟩) .nil .nil) .nil)) (.node none (.node none .nil (.node (some ⟨69,[(8, .val y1)],[]⟩) (.node (some ⟨69,[(1, .val y1),(2, .val y2),(3, .ptr 3 []),(8, .val y1),(31, .val y2),(32, .val y1),(33, .val y1)],[⟨3,true,false, .ro,y0⟩]⟩) (.node none .nil (.node none .nil (.node none (.node none (.node none .nil (.node none .nil (.node none (.node none .nil (.node (some ⟨69,[(1, .val y1),(2, .val y2),(3, .ptr 3 []),(8, .val y1),(12, .val y1),(13, .val y1),(31, .val y2),(32, .val y1),(33, .val y1)],[⟨3,true,false, .ro,y0⟩]⟩) (.node (some ⟨69,[(1, .val y1),(2, .val y2),(3, .ptr 3 []),(8, .val y1),(11, .val y1),(12, .val y1),(13, .val y1),(31, .val y2),(32, .val y1),(33, .val y1),(38, .val y2),(39, .val y1),(40, .val y1)],[⟨3,true,false, .ro,y0⟩]⟩) .nil .nil) .nil)) .nil))) .nil) .nil))) .nil) .nil)) .nil)))) func240
def S197 (N:Nat):Sp:=⟨.none,[y0,y1],(.prod y2 y1),2, .ro,fun _ x=>Px.Q10 N x.1 x.2.1⟩
theorem s197 (N:Nat):Sat prog 197 (S197 N):=sq (N:=N) (cc (cc cn (s240 N)) (s239 N)) (.node none .nil (.node none .nil (.node none (.node none .nil (.node (some ⟨40,[(6, .val y2),(7, .val y1)],[]⟩) (.node (some ⟨40,[(1, .val y1),(2, .ptr 2 []),(6, .val y2),(7, .val y1),(16, .vw 16 []),(17, .val y1),(18, .val y1)],[⟨2,true,false, .ro,y0⟩,⟨16,false,false,(.own .ro),(.slice 22 y2)⟩]⟩) (.node none .nil (.node none .nil (.node none (.node (some ⟨40,[(1, .val y1),(2, .ptr 2 []),(6, .val y2),(7, .val y1),(16, .vw 16 []),(17, .val y1),(18, .val y1)],[⟨2,true,false, .ro,y0⟩,⟨16,false,false,(.own .ro),(.slice 22 y2)⟩]⟩) .nil .nil) .nil))) .nil) .nil)) .nil))) func197
def S144 (N:Nat):Sp:=⟨.none,[y0,y1],(.prod y2 y13),3, .ro,fun _ x=>Px.Q6 N x.1 x.2.1⟩
theorem s144 (N:Nat):Sat prog 144 (S144 N):=sq (N:=N) (cc (cc (cc cn (s197 N)) (s196 N)) (s103 N)) .nil func144
def S198 (N:Nat):Sp:=⟨.none,[y4,y1,y1],y1,1, .ro,fun _ x=>Px.Q36 N x.1 x.2.1 x.2.2.1⟩
theorem s198 (N:Nat):Sat prog 198 (S198 N):=sq (N:=N) (cc cn (s106 N)) (.node none .nil (.node none .nil (.node none (.node none .nil (.node (some ⟨56,[(7, .val y1)],[]⟩) (.node (some ⟨56,[(2, .val y1),(3, .ptr 3 []),(7, .val y1),(8, .val y1)],[⟨3,true,false, .ro,y4⟩]⟩) (.node none .nil (.node none (.node none (.node none (.node none .nil (.node (some ⟨56,[(2, .val y1),(3, .ptr 3 []),(7, .val y1),(8, .val y1)],[⟨3,true,false, .ro,y4⟩]⟩) .nil .nil)) .nil) .nil) .nil)) .nil) .nil)) .nil))) func198
def S145 (N:Nat):Sp:=⟨.none,[y4],y13,2, .ro,fun _ x=>Px.Q24 N x.1⟩
theorem s145 (N:Nat):Sat prog 145 (S145 N):=sq (N:=N) (cc (cc cn (s198 N)) (s66 N)) .nil func145
def S146 (N:Nat):Sp:=⟨.none,[y4],y13,2, .ro,fun _ x=>Px.Q23 N x.1⟩
theorem s146 (N:Nat):Sat prog 146 (S146 N):=sq (N:=N) (cc (cc (cc cn (s198 N)) (s192 N)) (s66 N)) .nil func146
def S147 (N:Nat):Sp:=⟨.none,[y4],y10,2,y8,fun _ x=>Px.Q41 N x.1⟩
theorem s147 (N:Nat):Sat prog 147 (S147 N):=sq (N:=N) (cc (cc cn (s187 N)) (s66 N)) .nil func147
def S241 (N:Nat):Sp:=⟨.none,[y2, .str], .str,1, .ro,fun _ x=>Px.Q56 N x.1 x.2.1⟩
theorem s241 (N:Nat):Sat prog 241 (S241 N):=sq (N:=N) (cc (cc cn (s191 N)) (s135 N)) (.node none .nil (.node none .nil (.node none (.node none .nil (.node (some ⟨24,[(1, .val .str),(5, .vw 8 [])],[⟨8,false,false,(.own .ro),y7⟩]⟩) (.node (some ⟨24,[(1, .val .str),(5, .vw 8 []),(9, .val y2),(10, .val y1),(11, .val y1)],[⟨8,false,false,(.own .ro),y7⟩]⟩) .nil .nil) .nil)) .nil))) func241
def S199 (N:Nat):Sp:=⟨.none,[y0], .str,1, .ro,fun _ x=>Px.Q53 N x.1⟩
theorem s199 (N:Nat):Sat prog 199 (S199 N):=sq (N:=N) (cc (cc cn (s241 N)) (s191 N)) (.node none .nil (.node none .nil (.node none (.node none .nil (.node (some ⟨42,[(3, .vw 6 [])],[⟨6,false,false,(.own .ro),y7⟩]⟩) (.node (some ⟨42,[(1, .ptr 1 []),(3, .vw 6 []),(8, .val y2),(9, .val y1),(10, .val y1)],[⟨1,true,false, .ro,y0⟩,⟨6,false,false,(.own .ro),y7⟩]⟩) .nil .nil) .nil)) .nil))) func199
def S148 (N:Nat):Sp:=⟨.none,[y0],y14,2, .ro,fun _ x=>Px.Q7 N x.1⟩
theorem s148 (N:Nat):Sat prog 148 (S148 N):=sq (N:=N) (cc (cc cn (s199 N)) (s103 N)) .nil func148
def S149 (N:Nat):Sp:=⟨.none,[y0],y13,2, .ro,fun _ x=>Px.Q5 N x.1⟩
theorem s149 (N:Nat):Sat prog 149 (S149 N):=sq (N:=N) (cc (cc cn (s188 N)) (s103 N)) .nil func149
def S200 (N:Nat):Sp:=⟨.none,[y0],y2,1,(.own .ro),fun _ x=>Px.Q15 N x.1⟩
theorem s200 (N:Nat):Sat prog 200 (S200 N):=sq (N:=N) (cc cn (s238 N)) (.node none .nil (.node none .nil (.node none (.node none .nil (.node (some ⟨43,[(3, .vw 7 [])],[⟨7,false,false,(.own .ro),y2⟩]⟩) (.node (some ⟨43,[(1, .ptr 1 []),(3, .vw 7 []),(4, .val y1)],[⟨1,true,false, .ro,y0⟩,⟨7,false,false,(.own .ro),y2⟩]⟩) (.node none .nil (.node none (.node none (.node none .nil (.node none (.node none .nil (.node (some ⟨43,[(1, .ptr 1 []),(3, .vw 7 []),(4, .val y1),(5, .val y1)],[⟨1,true,false, .ro,y0⟩,⟨7,false,false,(.own .ro),y2⟩]⟩) (.node (some ⟨43,[(1, .ptr 1 []),(3, .vw 7 []),(4, .val y1),(5, .val y1),(6, .val y1)],[⟨1,true,false, .ro,y0⟩,⟨7,false,false,(.own .ro),y2⟩]⟩) .nil .nil) .nil)) .nil)) .nil) .nil)) .nil) .nil)) .nil))) func200
def S150 (N:Nat):Sp:=⟨.none,[y0],y10,2,y8,fun _ x=>Px.Q29 N x.1⟩
theorem s150 (N:Nat):Sat prog 150 (S150 N):=sq (N:=N) (cc (cc cn (s200 N)) (s103 N)) .nil func150
def S151 (N:Nat):Sp:=⟨.none,[y0],y10,2,y8,fun _ x=>Px.Q48 N x.1⟩
theorem s151 (N:Nat):Sat prog 151 (S151 N):=sq (N:=N) (cc (cc (cc cn (s200 N)) (s195 N)) (s103 N)) (.node none .nil (.node none .nil (.node none .nil (.node none (.node none .nil (.node (some ⟨40,[(4, .vw 12 [])],[⟨12,false,false,(.own .ro),y2⟩]⟩) (.node (some ⟨40,[(4, .vw 12 []),(6, .vw 16 []),(17, .vw 14 []),(18, .val y1),(19, .val y1)],[⟨12,false,false,(.own .ro),y2⟩,⟨16,false,false,(.own .ro),y2⟩,⟨14,false,false,(.own .ro),y2⟩]⟩) .nil .nil) .nil)) .nil)))) func151
def S201 (N:Nat):Sp:=⟨.none,[y0],y2,1,(.own .ro),fun _ x=>Px.Q18 N x.1⟩
theorem s201 (N:Nat):Sat prog 201 (S201 N):=sq (N:=N) (cc (cc cn (s238 N)) (s200 N)) (.node none .nil (.node none .nil (.node none (.node none .nil (.node (some ⟨39,[(3, .vw 7 [])],[⟨7,false,false,(.own .ro),y2⟩]⟩) (.node (some ⟨39,[(1, .ptr 1 []),(3, .vw 7 []),(4, .vw 9 []),(5, .val y1)],[⟨1,true,false, .ro,y0⟩,⟨7,false,false,(.own .ro),y2⟩,⟨9,false,false,(.own .ro),y2⟩]⟩) (.node none .nil (.node none (.node none (.node none .nil (.node none (.node (some ⟨39,[(1, .ptr 1 []),(3, .vw 7 []),(4, .vw 9 []),(5, .val y1),(6, .val y1)],[⟨1,true,false, .ro,y0⟩,⟨7,false,false,(.own .ro),y2⟩,⟨9,false,false,(.own .ro),y2⟩]⟩) (.node (some ⟨39,[(1, .ptr 1 []),(3, .vw 7 []),(4, .vw 9 []),(5, .val y1),(6, .val y1)],[⟨1,true,false, .ro,y0⟩,⟨7,false,false,(.own .ro),y2⟩,⟨9,false,false,(.own .ro),y2⟩]⟩) .nil .nil) .nil) .nil)) .nil) .nil)) .nil) .nil)) .nil))) func201
def S152 (N:Nat):Sp:=⟨.none,[y0],y10,2,y8,fun _ x=>Px.Q30 N x.1⟩
theorem s152 (N:Nat):Sat prog 152 (S152 N):=sq (N:=N) (cc (cc cn (s201 N)) (s103 N)) (.node none .nil (.node none .nil (.node none .nil (.node none (.node none .nil (.node (some ⟨37,[(4, .vw 10 [])],[⟨10,false,false,(.own .ro),y2⟩]⟩) (.node (some ⟨37,[(1, .ptr 1 []),(4, .vw 10 []),(12, .vw 12 []),(13, .val y1),(14, .val y1)],[⟨1,true,false, .ro,y0⟩,⟨10,false,false,(.own .ro),y2⟩,⟨12,false,false,(.own .ro),y2⟩]⟩) .nil .nil) .nil)) .nil)))) func152
def S203 (N:Nat):Sp:=⟨.none,[y0,y1,y2],y1,1, .ro,fun _ x=>Px.Q12 N x.1 x.2.1 x.2.2.1⟩
theorem s203 (N:Nat):Sat prog 203 (S203 N):=sq (N:=N) (cc cn (s202 N)) (.node none .nil (.node none .nil (.node none (.node none .nil (.node (some ⟨35,[(7, .val y1)],[]⟩) (.node (some ⟨35,[(1, .val y1),(2, .val y2),(3, .ptr 3 []),(7, .val y1),(8, .val y1)],[⟨3,true,false, .ro,y0⟩]⟩) .nil .nil) .nil)) .nil))) func203
def S153 (N:Nat):Sp:=⟨.none,[y0],y10,2,y8,fun _ x=>Px.Q27 N x.1⟩
theorem s153 (N:Nat):Sat prog 153 (S153 N):=sq (N:=N) (cc (cc (cc cn (s203 N)) (s202 N)) (s103 N)) (.node none .nil (.node none .nil (.node none .nil (.node none (.node none .nil (.node (some ⟨61,[(4, .vw 13 [])],[⟨13,false,false,(.own .ro),y2⟩]⟩) (.node (some ⟨61,[(1, .ptr 1 []),(4, .vw 13 []),(15, .val y2),(16, .val y1),(17, .val y1)],[⟨1,true,false, .ro,y0⟩,⟨13,false,false,(.own .ro),y2⟩]⟩) (.node none .nil (.node none .nil (.node none (.node none (.node none .nil (.node none .nil (.node none (.node none .nil (.node none (.node none .nil (.node (some ⟨61,[(1, .ptr 1 []),(4, .vw 13 []),(7, .val y1),(15, .val y2),(16, .val y1),(17, .val y1)],[⟨1,true,false, .ro,y0⟩,⟨13,false,false,(.own .ro),y2⟩]⟩) (.node (some ⟨61,[(1, .ptr 1 []),(4, .vw 13 []),(5, .val y1),(6, .val y1),(7, .val y1),(15, .val y2),(16, .val y1),(17, .val y1),(25, .val y1),(26, .val y1)],[⟨1,true,false, .ro,y0⟩,⟨13,false,false,(.own .ro),y2⟩]⟩) .nil .nil) .nil)) .nil)) .nil))) .nil) .nil))) .nil) .nil)) .nil)))) func153
def S95 (N:Nat):Sp:=⟨.none,[y4, .str,y2],y14,2, .ro,fun _ x=>Px.Q52 N x.1 x.2.1 x.2.2.1⟩
theorem s95 (N:Nat):Sat prog 95 (S95 N):=sq (N:=N) (cc (cc (cc (cc (cc (cc (cc (cc (cc (cc (cc (cc (cc (cc (cc (cc cn (s153 N)) (s152 N)) (s151 N)) (s150 N)) (s149 N)) (s148 N)) (s147 N)) (s146 N)) (s145 N)) (s144 N)) (s143 N)) (s142 N)) (s141 N)) (s140 N)) (s139 N)) (s138 N)) (.node none .nil (.node none (.node none .nil (.node (some ⟨178,[(1, .val .str),(2, .val y2),(3, .ptr 3 [])],[⟨3,true,false, .ro,y4⟩]⟩) .nil .nil)) .nil)) func95
def S57 (N:Nat):Sp:=⟨(.move y4 y3),[.str],(.prod y4 .str),2,(.pr y3 .ro),fun g x=>Px.Q57 N g x.1⟩
theorem s57 (N:Nat):Sat prog 57 (S57 N):=sq (N:=N) (cc (cc (cc (cc (cc (cc cn (s95 N)) (s94 N)) (s93 N)) (s92 N)) (s91 N)) (s63 N)) (.node none .nil (.node none .nil (.node none (.node none .nil (.node (some ⟨84,[(2, .ptr 0 []),(4, .ptr 4 []),(6, .val y7),(7, .vw 22 [])],[⟨0,true,false,y3,y4⟩,⟨4,true,false,y3,y4⟩,⟨22,false,false,(.own .ro),y2⟩]⟩) (.node (some ⟨84,[(2, .ptr 0 []),(4, .ptr 4 []),(6, .val y7),(7, .vw 22 []),(24, .val y7),(25, .val y1),(26, .val y1)],[⟨0,true,false,y3,y4⟩,⟨4,true,false,y3,y4⟩,⟨22,false,false,(.own .ro),y2⟩]⟩) .nil .nil) .nil)) .nil))) func57
def S58 (N:Nat):Sp:=⟨.none,[y5,y11],(.prod y5 y1),2, .ro,fun _ x=>Px.Q4 N x.1 x.2.1⟩
theorem s58 (N:Nat):Sat prog 58 (S58 N):=sq (N:=N) (cc (cc (cc cn (s97 N)) (s96 N)) (s70 N)) .nil func58
def S18 (N:Nat):Sp:=⟨.none,[y12, .str],(.prod y12 .str),2,(.pr (.pr y3 .ro) .ro),fun _ x=>Px.Q26 N x.1 x.2.1⟩
theorem s18 (N:Nat):Sat prog 18 (S18 N):=sq (N:=N) (Zmp (cc (cc (cc (cc (cc cn (s58 N)) (s57 N)) (s56 N)) (s55 N)) (s35 N)) [1000035]) .nil func18
def S23 (N:Nat):Sp:=⟨.none,[y12, .str],(.prod y7 .bool),2,y8,fun _ x=>Px.Q45 N x.1 x.2.1⟩
theorem s23 (N:Nat):Sat prog 23 (S23 N):=sq (N:=N) (cc (cc (cc cn (s63 N)) (s35 N)) (s18 N)) (.node none .nil (.node none .nil (.node none .nil (.node none .nil (.node none (.node none .nil (.node (some ⟨45,[(7, .vw 26 [])],[⟨26,false,false,(.own .ro),y7⟩]⟩) (.node (some ⟨45,[(2, .ptr 2 []),(7, .vw 26 []),(27, .vw 12 []),(28, .val y1),(29, .val y1)],[⟨2,true,false, .ro,y12⟩,⟨26,false,false,(.own .ro),y7⟩,⟨12,false,false,(.own .ro),y7⟩]⟩) .nil .nil) .nil)) .nil))))) func23
def S24 (N:Nat):Sp:=⟨.none,[y7,y7], .bool,1, .ro,fun _ x=>Px.Q73 N x.1 x.2.1⟩
theorem s24 (N:Nat):Sat prog 24 (S24 N):=sq (N:=N) (cn) (.node none .nil (.node none .nil (.node none (.node none .nil (.node (some ⟨26,[],[]⟩) (.node (some ⟨26,[(0, .val y7),(1, .val y7),(5, .val y1)],[]⟩) .nil .nil) .nil)) .nil))) func24
def S64 (N:Nat):Sp:=⟨.none,[y1], .str,1, .ro,fun _ x=>Px.Q80 N x.1⟩
theorem s64 (N:Nat):Sat prog 64 (S64 N):=sq (N:=N) (cn) (.node none .nil (.node none .nil (.node none .nil (.node none (.node (some ⟨20,[(3, .val .str)],[]⟩) (.node (some ⟨20,[(0, .val y1),(3, .val .str)],[]⟩) .nil .nil) .nil) .nil)))) func64
def S25 (N:Nat):Sp:=⟨(.«mut» y7 (.own .ro) (.own .ro)),[y1],y1,1, .ro,fun g x=>Px.Q79 N g x.1⟩
theorem s25 (N:Nat):Sat prog 25 (S25 N):=sq (N:=N) (cc cn (s64 N)) (.node none .nil (.node none (.node none .nil (.node (some ⟨20,[(0, .vw 0 []),(1, .val y1)],[⟨0,false,false,(.own .ro),y7⟩]⟩) (.node (some ⟨20,[(0, .vw 0 []),(1, .val y1),(5, .val y1)],[⟨0,false,false,(.own .ro),y7⟩]⟩) .nil .nil) .nil)) .nil)) func25
def S26 (N:Nat):Sp:=⟨.none,[y7,y1],y1,1, .ro,fun _ x=>Px.Q74 N x.1 x.2.1⟩
theorem s26 (N:Nat):Sat prog 26 (S26 N):=sq (N:=N) (cc cn (s64 N)) (.node none .nil (.node none (.node none .nil (.node (some ⟨22,[(1, .val y1)],[]⟩) (.node (some ⟨22,[(0, .val y7),(1, .val y1),(5, .val y1)],[]⟩) .nil .nil) .nil)) .nil)) func26
def S5 (N:Nat):Sp:=⟨.none,[y12, .str], .bool,1, .ro,fun _ x=>Px.laws_FnExactRunScript N x.1 x.2.1⟩
theorem s5 (N:Nat):Sat prog 5 (S5 N):=sq (N:=N) (cc (cc (cc (cc (cc (cc (cc (cc (cc cn (s26 N)) (s25 N)) (s24 N)) (s23 N)) (s22 N)) (s20 N)) (s19 N)) (s17 N)) (s15 N)) .nil func5
end
end Go.Proofs.YtndchhdnmnfnlaaGreatDoor.RsFnExactRunScript
