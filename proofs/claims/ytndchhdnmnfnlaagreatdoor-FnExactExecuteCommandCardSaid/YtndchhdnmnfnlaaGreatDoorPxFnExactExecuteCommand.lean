/- This text defines the plain functions that the Go functions behind FnExactExecuteCommand compute; no condition. -/
import Derived.Test.YtndchhdnmnfnlaaGreatDoorRxe
set_option linter.unusedVariables false
set_option linter.unusedSimpArgs false
set_option linter.defProp false
namespace Go.Rx
namespace Px
abbrev Y0:=(List Int)×(List Int)×(List Int)×(List Int)
abbrev Y1:=(List Int)×Unit
abbrev Y2:=((List Int)×Bool)×Unit
abbrev Y3:=Y0×(List Int)×Int
abbrev Y4:=Int×Unit
abbrev Y5:=Bool×Unit
abbrev Y6:=((List Int)×Int)×Unit
abbrev Y7:=(Int×Bool)×Unit
abbrev Y8:=ByteArray×Unit
abbrev Y9:=ByteArray×ByteArray
abbrev Y10:=((List Int)×(List Int))×Unit
abbrev Y11:=(ByteArray×Bool)×Unit
abbrev Y12:=List (List Int)
abbrev Y13:=(Y3×ByteArray)×Unit
abbrev Y14:=List ByteArray
abbrev Y15:=(Int×Int×Int)×Unit
abbrev Y16:=Y12×Unit
abbrev Y17:=Y3×ByteArray×ByteArray×Int
def Q82 (N:Nat) (a:List Int) (left:Int):Option Y4:=
 bif ilt (isub .i64 left (len a)) 0 then
  some ((-1),())
 else
  some (isub .i64 left (len a),())
def Q80 (N:Nat) (a:(List Int)×(List Int)×(List Int)×(List Int)) (left:Int):Option Y4:=
 (Q82 N a.1 left).bind fun r=>
 bif ilt r.1 0 then
  some ((-1),())
 else
  (Q82 N a.2.1 r.1).bind fun r1=>
  bif ilt r1.1 0 then
   some ((-1),())
  else
   (Q82 N a.2.2.1 r1.1).bind fun r2=>
   bif ilt r2.1 0 then
    some ((-1),())
   else
    (Q82 N a.2.2.2 r2.1).bind fun r3=>
    bif ilt r3.1 0 then
     some ((-1),())
    else
     some (r3.1,())
def Q83 (N:Nat) (a:Y0×(List Int)×Int) (left:Int):Option Y4:=
 (Q80 N a.1 left).bind fun r=>
 bif ilt r.1 0 then
  some ((-1),())
 else
  (Q82 N a.2.1 r.1).bind fun r1=>
  bif ilt r1.1 0 then
   some ((-1),())
  else
   some (r1.1,())
def Q84 (N:Nat) (a:ByteArray×ByteArray×Int) (left:Int):Option Y4:=
 bif ilt (isub .i64 left (slen a.1)) 0 then
  some ((-1),())
 else
  bif ilt (isub .i64 (isub .i64 left (slen a.1)) (slen a.2.1)) 0 then
   some ((-1),())
  else
   some (isub .i64 (isub .i64 left (slen a.1)) (slen a.2.1),())
def Q81 (N:Nat) (a:Y3×ByteArray×ByteArray×Int) (left:Int):Option Y4:=
 (Q83 N a.1 left).bind fun r=>
 bif ilt r.1 0 then
  some ((-1),())
 else
  (Q84 N a.2 r.1).bind fun r1=>
  bif ilt r1.1 0 then
   some ((-1),())
  else
   some (r1.1,())
def Q141_K1 (N:Nat) (s2:ByteArray) (fromx1:Int) (out1:List ByteArray):Option (Y14×Unit):=
 chk (cutB fromx1 (slen s2) s2.size)<|
 chk (fitB (out1.length+1) 16)<|
 some (out1++[scut s2 fromx1 (slen s2)],())
def Q141_B1 (N:Nat) (kx:ByteArray→Int→Int→Int→Y14→Option (Y14×Unit)) (s1:ByteArray) (b1:Int) (fromx:Int) (i:Int) (out:List ByteArray):Option (Y14×Unit):=
 bif ilt i (slen s1) then
  chk (inB i s1.size)<|
  bif ieq (sbyte s1 i) b1 then
   chk (cutB fromx i s1.size)<|
   chk (fitB (out.length+1) 16)<|
   kx s1 b1 (iadd .i64 i 1) (iadd .i64 i 1) (out++[scut s1 fromx i])
  else
   kx s1 b1 fromx (iadd .i64 i 1) out
 else
  Q141_K1 N s1 fromx out
def Q141_L1 (N fu_:Nat):=it_4_1 (Q141_B1 N) fu_
theorem Q141_L1_succ (N fu_:Nat) (s1:ByteArray) (b1:Int) (fromx:Int) (i:Int) (out:List ByteArray):Q141_L1 N (fu_+1) s1 b1 fromx i out=Q141_B1 N (fun s1 b1 fromx i out=>Q141_L1 N fu_ s1 b1 fromx i out) s1 b1 fromx i out:=rfl
def Q141 (N:Nat) (s:ByteArray) (b:Int):Option (Y14×Unit):=
 Q141_L1 N N s b 0 0 []
def Q134 (N:Nat) (x:Int) (a:Int) (b:Int):Option Y5:=
 bif ile a x then
  some (ile x b,())
 else
  some (false,())
def Q107_K1 (N:Nat) (s2:ByteArray) (most2:Int):Option Y5:=
 some (ile (slen s2) most2,())
def Q107_B1 (N:Nat) (kx:ByteArray→Int→Int→Option Y5) (s1:ByteArray) (most1:Int) (i:Int):Option Y5:=
 bif ilt i (slen s1) then
  chk (inB i s1.size)<|
  (Q134 N (icv .i64 (sbyte s1 i)) 32 126).bind fun r=>
  bif !r.1 then
   some (false,())
  else
   chk (inB i s1.size)<|
   bif ieq (sbyte s1 i) 35 then
    some (false,())
   else
    kx s1 most1 (iadd .i64 i 1)
 else
  Q107_K1 N s1 most1
def Q107_L1 (N fu_:Nat):=it_3_0 (Q107_B1 N) fu_
def Q107_L1_run (N:Nat):=run3 (Q107_B1 N) (Q107_L1 N) (fun _ _ _ _=>rfl)
def Q107 (N:Nat) (s:ByteArray) (most:Int):Option Y5:=
 Q107_L1 N N s most 0
def Q142_K1 (N:Nat):Option Y5:=
 some (false,())
def Q142_B1 (N:Nat) (kx:ByteArray→Int→Int→Option Y5) (s1:ByteArray) (b1:Int) (i:Int):Option Y5:=
 bif ilt i (slen s1) then
  chk (inB i s1.size)<|
  bif ieq (sbyte s1 i) b1 then
   some (true,())
  else
   kx s1 b1 (iadd .i64 i 1)
 else
  Q142_K1 N
def Q142_L1 (N fu_:Nat):=it_3_0 (Q142_B1 N) fu_
def Q142_L1_run (N:Nat):=run3 (Q142_B1 N) (Q142_L1 N) (fun _ _ _ _=>rfl)
def Q142 (N:Nat) (s:ByteArray) (b:Int):Option Y5:=
 Q142_L1 N N s b 0
def Q127 (N:Nat) (e:ByteArray×ByteArray):Option Y5:=
 bif !(Go.Rx.seq e.1 (⟨#[]⟩:ByteArray)) then
  (Q107 N e.1 160).bind fun r=>
  bif r.1 then
   (Q142 N e.1 64).bind fun r1=>
   bif !r1.1 then
    (Q107 N e.2 200).bind fun r2=>
    some (r2.1,())
   else
    some (false,())
  else
   some (false,())
 else
  some (false,())
def Q137_F (N:Nat) (kr_:Int→Option Y8) (n:Int):Option Y8:=
 bif ilt n 0 then
  (kr_ (isub .i64 0 n)).bind fun r=>
  chk (sfit (⟨#[45]⟩:ByteArray) r.1)<|
  some (scat (⟨#[45]⟩:ByteArray) r.1,())
 else
  bif ilt n 10 then
   chk (cutB n (iadd .i64 n 1) (⟨#[48,49,50,51,52,53,54,55,56,57]⟩:ByteArray).size)<|
   some (scut (⟨#[48,49,50,51,52,53,54,55,56,57]⟩:ByteArray) n (iadd .i64 n 1),())
  else
   chk (ine 10 0)<|
   (kr_ (iquo .i64 n 10)).bind fun r1=>
   chk (ine 10 0)<|
   chk (ine 10 0)<|
   chk (cutB (irem n 10) (iadd .i64 (irem n 10) 1) (⟨#[48,49,50,51,52,53,54,55,56,57]⟩:ByteArray).size)<|
   chk (sfit r1.1 (scut (⟨#[48,49,50,51,52,53,54,55,56,57]⟩:ByteArray) (irem n 10) (iadd .i64 (irem n 10) 1)))<|
   some (scat r1.1 (scut (⟨#[48,49,50,51,52,53,54,55,56,57]⟩:ByteArray) (irem n 10) (iadd .i64 (irem n 10) 1)),())
def Q137_R (N:Nat):Nat→Int→Option Y8
 | 0=>fun _=>none
 | k_+1=>Q137_F N (Q137_R N k_)
theorem Q137_R_succ (N k_:Nat) (n:Int):Q137_R N (k_+1) n=Q137_F N (Q137_R N k_) n:=rfl
def Q137 (N:Nat) (n:Int):Option Y8:=Q137_R N N n
def Q143_K1 (N:Nat) (n1:Int):Option Y4:=
 some (n1,())
def Q143_B1 (N:Nat) (kx:ByteArray→Int→Int→Option Y4) (s1:ByteArray) (n:Int) (i:Int):Option Y4:=
 bif ilt i (slen s1) then
  chk (inB i s1.size)<|
  chk (ine 999979 0)<|
  kx s1 (irem (iadd .i64 (iadd .i64 (imul .i64 41 n) (icv .i64 (sbyte s1 i))) 1) 999979) (iadd .i64 i 1)
 else
  Q143_K1 N n
def Q143_L1 (N fu_:Nat):=it_3_0 (Q143_B1 N) fu_
def Q143_L1_run (N:Nat):=run3 (Q143_B1 N) (Q143_L1 N) (fun _ _ _ _=>rfl)
def Q143 (N:Nat) (s:ByteArray):Option Y4:=
 Q143_L1 N N s 7 0
def Q140 (N:Nat) (s:ByteArray):Option Y8:=
 chk (sfit s (⟨#[35]⟩:ByteArray))<|
 (Q143 N s).bind fun r=>
 (Q137 N r.1).bind fun r1=>
 chk (sfit (scat s (⟨#[35]⟩:ByteArray)) r1.1)<|
 some (scat (scat s (⟨#[35]⟩:ByteArray)) r1.1,())
def Q117 (N:Nat) (kx:Int) (e:ByteArray×ByteArray):Option Y8:=
 (Q137 N kx).bind fun r=>
 chk (sfit r.1 (⟨#[32]⟩:ByteArray))<|
 chk (sfit (scat r.1 (⟨#[32]⟩:ByteArray)) e.1)<|
 chk (sfit (scat (scat r.1 (⟨#[32]⟩:ByteArray)) e.1) (⟨#[64]⟩:ByteArray))<|
 chk (sfit (scat (scat (scat r.1 (⟨#[32]⟩:ByteArray)) e.1) (⟨#[64]⟩:ByteArray)) e.2)<|
 (Q140 N (scat (scat (scat (scat r.1 (⟨#[32]⟩:ByteArray)) e.1) (⟨#[64]⟩:ByteArray)) e.2)).bind fun r1=>
 chk (sfit r1.1 (⟨#[10]⟩:ByteArray))<|
 some (scat r1.1 (⟨#[10]⟩:ByteArray),())
def Q110 (N:Nat) (s:ByteArray) (kx:Int):Option ((Y9×Bool)×Unit):=
 (Q137 N kx).bind fun r=>
 chk (sfit r.1 (⟨#[32]⟩:ByteArray))<|
 (Q141 N s 35).bind fun r1=>
 chk (inB 0 r1.1.length)<|
 bif ilt (slen (gd r1.1 0 (⟨#[]⟩:ByteArray))) (slen (scat r.1 (⟨#[32]⟩:ByteArray))) then
  some ((((⟨#[]⟩:ByteArray),(⟨#[]⟩:ByteArray)),false),())
 else
  chk (cutB 0 (slen (scat r.1 (⟨#[32]⟩:ByteArray))) (gd r1.1 0 (⟨#[]⟩:ByteArray)).size)<|
  bif !(Go.Rx.seq (scut (gd r1.1 0 (⟨#[]⟩:ByteArray)) 0 (slen (scat r.1 (⟨#[32]⟩:ByteArray)))) (scat r.1 (⟨#[32]⟩:ByteArray))) then
   some ((((⟨#[]⟩:ByteArray),(⟨#[]⟩:ByteArray)),false),())
  else
   chk (cutB (slen (scat r.1 (⟨#[32]⟩:ByteArray))) (slen (gd r1.1 0 (⟨#[]⟩:ByteArray))) (gd r1.1 0 (⟨#[]⟩:ByteArray)).size)<|
   (Q141 N (scut (gd r1.1 0 (⟨#[]⟩:ByteArray)) (slen (scat r.1 (⟨#[32]⟩:ByteArray))) (slen (gd r1.1 0 (⟨#[]⟩:ByteArray)))) 64).bind fun r2=>
   chk (inB 0 r2.1.length)<|
   bif ieq (slen (gd r2.1 0 (⟨#[]⟩:ByteArray))) (slen (scut (gd r1.1 0 (⟨#[]⟩:ByteArray)) (slen (scat r.1 (⟨#[32]⟩:ByteArray))) (slen (gd r1.1 0 (⟨#[]⟩:ByteArray))))) then
    some ((((⟨#[]⟩:ByteArray),(⟨#[]⟩:ByteArray)),false),())
   else
    chk (cutB (iadd .i64 (slen (gd r2.1 0 (⟨#[]⟩:ByteArray))) 1) (slen (scut (gd r1.1 0 (⟨#[]⟩:ByteArray)) (slen (scat r.1 (⟨#[32]⟩:ByteArray))) (slen (gd r1.1 0 (⟨#[]⟩:ByteArray))))) (scut (gd r1.1 0 (⟨#[]⟩:ByteArray)) (slen (scat r.1 (⟨#[32]⟩:ByteArray))) (slen (gd r1.1 0 (⟨#[]⟩:ByteArray)))).size)<|
    (Q127 N (gd r2.1 0 (⟨#[]⟩:ByteArray),scut (scut (gd r1.1 0 (⟨#[]⟩:ByteArray)) (slen (scat r.1 (⟨#[32]⟩:ByteArray))) (slen (gd r1.1 0 (⟨#[]⟩:ByteArray)))) (iadd .i64 (slen (gd r2.1 0 (⟨#[]⟩:ByteArray))) 1) (slen (scut (gd r1.1 0 (⟨#[]⟩:ByteArray)) (slen (scat r.1 (⟨#[32]⟩:ByteArray))) (slen (gd r1.1 0 (⟨#[]⟩:ByteArray))))))).bind fun r3=>
    bif r3.1 then
     (Q117 N kx (gd r2.1 0 (⟨#[]⟩:ByteArray),scut (scut (gd r1.1 0 (⟨#[]⟩:ByteArray)) (slen (scat r.1 (⟨#[32]⟩:ByteArray))) (slen (gd r1.1 0 (⟨#[]⟩:ByteArray)))) (iadd .i64 (slen (gd r2.1 0 (⟨#[]⟩:ByteArray))) 1) (slen (scut (gd r1.1 0 (⟨#[]⟩:ByteArray)) (slen (scat r.1 (⟨#[32]⟩:ByteArray))) (slen (gd r1.1 0 (⟨#[]⟩:ByteArray))))))).bind fun r4=>
     chk (sfit s (⟨#[10]⟩:ByteArray))<|
     some (((gd r2.1 0 (⟨#[]⟩:ByteArray),scut (scut (gd r1.1 0 (⟨#[]⟩:ByteArray)) (slen (scat r.1 (⟨#[32]⟩:ByteArray))) (slen (gd r1.1 0 (⟨#[]⟩:ByteArray)))) (iadd .i64 (slen (gd r2.1 0 (⟨#[]⟩:ByteArray))) 1) (slen (scut (gd r1.1 0 (⟨#[]⟩:ByteArray)) (slen (scat r.1 (⟨#[32]⟩:ByteArray))) (slen (gd r1.1 0 (⟨#[]⟩:ByteArray)))))),Go.Rx.seq r4.1 (scat s (⟨#[10]⟩:ByteArray))),())
    else
     some (((gd r2.1 0 (⟨#[]⟩:ByteArray),scut (scut (gd r1.1 0 (⟨#[]⟩:ByteArray)) (slen (scat r.1 (⟨#[32]⟩:ByteArray))) (slen (gd r1.1 0 (⟨#[]⟩:ByteArray)))) (iadd .i64 (slen (gd r2.1 0 (⟨#[]⟩:ByteArray))) 1) (slen (scut (gd r1.1 0 (⟨#[]⟩:ByteArray)) (slen (scat r.1 (⟨#[32]⟩:ByteArray))) (slen (gd r1.1 0 (⟨#[]⟩:ByteArray)))))),false),())
def Q123_K1 (N:Nat) (atx1:Int) (out1:List Y9):Option (((List Y9)×Int)×Unit):=
 some ((out1,atx1),())
def Q123_B1 (N:Nat) (kx:ByteArray→Int→(List Y9)→Option (((List Y9)×Int)×Unit)) (s1:ByteArray) (atx:Int) (out:List Y9):Option (((List Y9)×Int)×Unit):=
 bif ilt atx (slen s1) then
  bif ilt (len out) 60 then
   chk (cutB atx (slen s1) s1.size)<|
   (Q141 N (scut s1 atx (slen s1)) 10).bind fun r=>
   chk (inB 0 r.1.length)<|
   (Q110 N (gd r.1 0 (⟨#[]⟩:ByteArray)) (len out)).bind fun r1=>
   bif ilt (len r.1) 2 then
    Q123_K1 N atx out
   else
    bif !r1.1.2 then
     Q123_K1 N atx out
    else
     chk (fitB (out.length+1) 32)<|
     chk (inB 0 r.1.length)<|
     kx s1 (iadd .i64 (iadd .i64 atx (slen (gd r.1 0 (⟨#[]⟩:ByteArray)))) 1) (out++[r1.1.1])
  else
   Q123_K1 N atx out
 else
  Q123_K1 N atx out
def Q123_L1 (N fu_:Nat):=it_2_1 (Q123_B1 N) fu_
theorem Q123_L1_succ (N fu_:Nat) (s1:ByteArray) (atx:Int) (out:List Y9):Q123_L1 N (fu_+1) s1 atx out=Q123_B1 N (fun s1 atx out=>Q123_L1 N fu_ s1 atx out) s1 atx out:=rfl
def Q123 (N:Nat) (s:ByteArray):Option (((List Y9)×Int)×Unit):=
 Q123_L1 N N s 0 []
def Q132 (N:Nat) (l:ByteArray×ByteArray×Int):Option Y5:=
 bif ilt 30000 (iadd .i64 (slen l.1) (slen l.2.1)) then
  some (false,())
 else
  chk (sfit l.1 l.2.1)<|
  (Q123 N (scat l.1 l.2.1)).bind fun r=>
  (Q123 N l.1).bind fun r1=>
  bif ieq r.1.2 (iadd .i64 (slen l.1) (slen l.2.1)) then
   bif ieq r1.1.2 (slen l.1) then
    some (ieq (len r.1.1) l.2.2,())
   else
    some (false,())
  else
   some (false,())
def Q153_K1 (N:Nat) (row2:List Int) (n2:Int):Option Y5:=
 some (ieq (len row2) n2,())
def Q153_B1 (N:Nat) (kx:(List Int)→Int→Int→Int→Option Y5) (row1:List Int) (n1:Int) (most1:Int) (i:Int):Option Y5:=
 bif ilt i (len row1) then
  chk (inB i row1.length)<|
  (Q134 N (gd row1 i.toNat 0) 0 most1).bind fun r=>
  bif !r.1 then
   some (false,())
  else
   kx row1 n1 most1 (iadd .i64 i 1)
 else
  Q153_K1 N row1 n1
def Q153_L1 (N fu_:Nat):=it_4_0 (Q153_B1 N) fu_
def Q153_L1_run (N:Nat):=run4 (Q153_B1 N) (Q153_L1 N) (fun _ _ _ _ _=>rfl)
def Q153 (N:Nat) (row:List Int) (n:Int) (most:Int):Option Y5:=
 Q153_L1 N N row n most 0
def Q150 (N:Nat) (c:(List Int)×(List Int)×(List Int)×(List Int)):Option Y5:=
 bif ile (len c.1) 8 then
  (Q153 N c.1 (len c.1) 20).bind fun r=>
  bif r.1 then
   (Q153 N c.2.1 (len c.1) 99).bind fun r1=>
   bif r1.1 then
    (Q153 N c.2.2.1 (len c.1) 9).bind fun r2=>
    bif r2.1 then
     (Q153 N c.2.2.2 (len c.1) 9).bind fun r3=>
     some (r3.1,())
    else
     some (false,())
   else
    some (false,())
  else
   some (false,())
 else
  some (false,())
def Q130_K1 (N:Nat) (sum1:Int):Option Y4:=
 some (sum1,())
def Q130_B1 (N:Nat) (kx:Int→Int→Int→Y3→Option Y4) (many1:Int) (sum:Int) (t:Int) (l1:Y0×(List Int)×Int):Option Y4:=
 bif ilt t many1 then
  chk (inB t l1.2.1.length)<|
  chk (inB t l1.1.1.length)<|
  kx many1 (isub .i64 (iadd .i64 sum (gd l1.2.1 t.toNat 0)) (gd l1.1.1 t.toNat 0)) (iadd .i64 t 1) l1
 else
  Q130_K1 N sum
def Q130_L1 (N fu_:Nat):=it_3_1 (Q130_B1 N) fu_
def Q130_L1_run (N:Nat):=run4 (Q130_B1 N) (Q130_L1 N) (fun _ _ _ _ _=>rfl)
def Q130 (N:Nat) (l:Y0×(List Int)×Int) (many:Int):Option Y4:=
 Q130_L1 N N many 0 0 l
def Q115_K1 (N:Nat):Option Y5:=
 some (true,())
def Q115_B1 (N:Nat) (kx:Int→Y3→Option Y5) (t:Int) (l1:Y0×(List Int)×Int):Option Y5:=
 bif ile t l1.2.2 then
  (Q130 N l1 t).bind fun r3=>
  bif ilt r3.1 0 then
   some (false,())
  else
   kx (iadd .i64 t 1) l1
 else
  Q115_K1 N
def Q115_L1 (N fu_:Nat):=it_1_1 (Q115_B1 N) fu_
def Q115_L1_run (N:Nat):=run2 (Q115_B1 N) (Q115_L1 N) (fun _ _ _=>rfl)
def Q115 (N:Nat) (l:Y0×(List Int)×Int):Option Y5:=
 (Q150 N l.1).bind fun r=>
 bif !r.1 then
  some (false,())
 else
  (Q153 N l.2.1 (len l.1.1) 200).bind fun r1=>
  bif !r1.1 then
   some (false,())
  else
   (Q134 N l.2.2 0 (len l.1.1)).bind fun r2=>
   bif !r2.1 then
    some (false,())
   else
    Q115_L1 N N 1 l
def Q102 (N:Nat) (c:Y3×ByteArray×ByteArray×Int):Option Y5:=
 (Q115 N c.1).bind fun r=>
 bif r.1 then
  (Q132 N c.2).bind fun r1=>
  some (r1.1,())
 else
  some (false,())
def Q138 (N:Nat) (l:List Int):Option Y1:=
 chk (fitB (0+l.length) 8)<|
 some (l,())
def Q124 (N:Nat) (l:Y0×(List Int)×Int):Option (Y3×Unit):=
 (Q138 N l.1.1).bind fun r=>
 (Q138 N l.1.2.1).bind fun r1=>
 (Q138 N l.1.2.2.1).bind fun r2=>
 (Q138 N l.1.2.2.2).bind fun r3=>
 (Q138 N l.2.1).bind fun r4=>
 some (((r.1,(r1.1,(r2.1,r3.1))),(r4.1,l.2.2)),())
def Q125_K1 (N:Nat) (a1:Int×Int×Int×Int×Int):Option Y5:=
 (Q134 N a1.1 4 6).bind fun r=>
 bif r.1 then
  bif ieq a1.2.1 0 then
   bif ieq a1.2.2.1 0 then
    bif ieq a1.2.2.2.1 0 then
     some (ieq a1.2.2.2.2 0,())
    else
     some (false,())
   else
    some (false,())
  else
   some (false,())
 else
  some (false,())
def Q125 (N:Nat) (a:Int×Int×Int×Int×Int):Option Y5:=
 bif ieq a.1 1 then
  some (true,())
 else
  bif ieq a.1 2 then
   bif ieq a.2.2.2.1 0 then
    some (ieq a.2.2.2.2 0,())
   else
    some (false,())
  else
   bif ieq a.1 3 then
    bif ieq a.2.2.2.1 0 then
     some (ieq a.2.2.2.2 0,())
    else
     some (false,())
   else
    Q125_K1 N a
def Q108 (N:Nat) (l:Y0×(List Int)×Int) (t:Int):Option Y5:=
 (Q134 N t l.2.2 (isub .i64 (len l.2.1) 1)).bind fun r=>
 some (r.1,())
def Q120 (N:Nat) (l:Y0×(List Int)×Int) (a:Int×Int×Int×Int×Int):Option Y5:=
 bif ieq a.1 2 then
  (Q108 N l a.2.1).bind fun r=>
  some (r.1,())
 else
  bif ieq a.1 3 then
   (Q108 N l a.2.1).bind fun r1=>
   some (r1.1,())
  else
   bif ieq a.1 4 then
    (Q108 N l l.2.2).bind fun r2=>
    some (r2.1,())
   else
    some (true,())
def Q155_K1 (N:Nat) (sum1:Int):Option Y4:=
 some (sum1,())
def Q155_B1 (N:Nat) (kx:(List Int)→Int→Int→Option Y4) (list1:List Int) (sum:Int) (i:Int):Option Y4:=
 bif ilt i (len list1) then
  chk (inB i list1.length)<|
  kx list1 (iadd .i64 sum (gd list1 i.toNat 0)) (iadd .i64 i 1)
 else
  Q155_K1 N sum
def Q155_L1 (N fu_:Nat):=it_3_0 (Q155_B1 N) fu_
def Q155_L1_run (N:Nat):=run3 (Q155_B1 N) (Q155_L1 N) (fun _ _ _ _=>rfl)
def Q155 (N:Nat) (list:List Int):Option Y4:=
 Q155_L1 N N list 0 0
def Q149_K1 (N:Nat) (kx:(List Int)→Int→Y0→(List Int)→Option Y1) (periods2:List Int) (i1:Int) (to:Int) (c2:(List Int)×(List Int)×(List Int)×(List Int)) (out1:List Int):Option Y1:=
 chk (inB i1 periods2.length)<|
 chk (inB i1 periods2.length)<|
 chk (cutB (gd periods2 i1.toNat 0) to c2.1.length)<|
 (Q155 N (cut c2.1 (gd periods2 i1.toNat 0) to)).bind fun r=>
 chk (inB (gd periods2 i1.toNat 0) out1.length)<|
 kx periods2 (iadd .i64 i1 1) c2 (List.set out1 (gd periods2 i1.toNat 0).toNat r.1)
def Q149_K2 (N:Nat) (out2:List Int):Option Y1:=
 some (out2,())
def Q149_B1 (N:Nat) (kx:(List Int)→Int→Y0→(List Int)→Option Y1) (periods1:List Int) (i:Int) (c1:(List Int)×(List Int)×(List Int)×(List Int)) (out:List Int):Option Y1:=
 bif ilt i (len periods1) then
  bif ilt (iadd .i64 i 1) (len periods1) then
   chk (inB (iadd .i64 i 1) periods1.length)<|
   Q149_K1 N kx periods1 i (gd periods1 (iadd .i64 i 1).toNat 0) c1 out
  else
   Q149_K1 N kx periods1 i (len c1.1) c1 out
 else
  Q149_K2 N out
def Q149_L1 (N fu_:Nat):=it_2_2 (Q149_B1 N) fu_
def Q149_L1_run (N:Nat):=run4 (Q149_B1 N) (Q149_L1 N) (fun _ _ _ _ _=>rfl)
def Q149 (N:Nat) (c:(List Int)×(List Int)×(List Int)×(List Int)) (periods:List Int):Option Y1:=
 chk (mkB (len c.1) 8)<|
 Q149_L1 N N periods 0 c (List.replicate (len c.1).toNat 0)
def Q135 (N:Nat) (a:Int) (b:Int):Option Y4:=
 bif ilt a b then
  some (a,())
 else
  some (b,())
def Q116_K1 (N:Nat) (out1:List Int):Option Y1:=
 some (out1,())
def Q116_B1 (N:Nat) (kx:Int→Int→Y3→(List Int)→Option Y1) (stock:Int) (t:Int) (l1:Y0×(List Int)×Int) (out:List Int):Option Y1:=
 bif ilt t (len l1.2.1) then
  chk (inB t l1.1.1.length)<|
  (Q135 N stock (gd l1.1.1 t.toNat 0)).bind fun r1=>
  chk (inB t l1.1.1.length)<|
  chk (fitB (out.length+1) 8)<|
  kx (isub .i64 stock r1.1) (iadd .i64 t 1) l1 (out++[isub .i64 (gd l1.1.1 t.toNat 0) r1.1])
 else
  Q116_K1 N out
def Q116_L1 (N fu_:Nat):=it_2_2 (Q116_B1 N) fu_
def Q116_L1_run (N:Nat):=run4 (Q116_B1 N) (Q116_L1 N) (fun _ _ _ _ _=>rfl)
def Q116 (N:Nat) (l:Y0×(List Int)×Int):Option Y1:=
 (Q130 N l l.2.2).bind fun r=>
 Q116_L1 N N r.1 l.2.2 l []
def Q106 (N:Nat) (l:Y0×(List Int)×Int):Option (Y0×Unit):=
 (Q116 N l).bind fun r=>
 chk (cutB l.2.2 (len l.1.2.1) l.1.2.1.length)<|
 (Q138 N (cut l.1.2.1 l.2.2 (len l.1.2.1))).bind fun r1=>
 chk (cutB l.2.2 (len l.1.2.2.1) l.1.2.2.1.length)<|
 (Q138 N (cut l.1.2.2.1 l.2.2 (len l.1.2.2.1))).bind fun r2=>
 chk (cutB l.2.2 (len l.1.2.2.2) l.1.2.2.2.length)<|
 (Q138 N (cut l.1.2.2.2 l.2.2 (len l.1.2.2.2))).bind fun r3=>
 some ((r.1,(r1.1,(r2.1,r3.1))),())
def Q154_K1 (N:Nat) (out1:List Int):Option Y1:=
 some (out1,())
def Q154_B1 (N:Nat) (kx:(List Int)→Int→Int→Y0→(List Int)→Option Y1) (plan1:List Int) (now:Int) (t:Int) (c1:(List Int)×(List Int)×(List Int)×(List Int)) (out:List Int):Option Y1:=
 bif ilt t (len plan1) then
  chk (inB t plan1.length)<|
  chk (inB t c1.1.length)<|
  chk (fitB (out.length+1) 8)<|
  kx plan1 (isub .i64 (iadd .i64 now (gd plan1 t.toNat 0)) (gd c1.1 t.toNat 0)) (iadd .i64 t 1) c1 (out++[isub .i64 (iadd .i64 now (gd plan1 t.toNat 0)) (gd c1.1 t.toNat 0)])
 else
  Q154_K1 N out
def Q154_L1 (N fu_:Nat):=it_3_2 (Q154_B1 N) fu_
def Q154_L1_run (N:Nat):=run5 (Q154_B1 N) (Q154_L1 N) (fun _ _ _ _ _ _=>rfl)
def Q154 (N:Nat) (c:(List Int)×(List Int)×(List Int)×(List Int)) (plan:List Int):Option Y1:=
 Q154_L1 N N plan 0 0 c []
def Q152_K1 (N:Nat) (kx:(List Int)→Int→Y0→(List Int)→(List Int)→(List Int)→Option Y1) (plan2:List Int) (t1:Int) (c2:(List Int)×(List Int)×(List Int)×(List Int)) (v41:List Int) (out1:List Int) (stocks1:List Int):Option Y1:=
 chk (inB 1 3)<|
 chk (inB t1 c2.2.2.1.length)<|
 chk (inB t1 plan2.length)<|
 chk (inB 1 3)<|
 chk (inB 2 3)<|
 chk (inB t1 c2.2.2.2.length)<|
 chk (inB t1 stocks1.length)<|
 chk (inB 2 3)<|
 kx plan2 (iadd .i64 t1 1) c2 v41 (List.set (List.set out1 1 (iadd .i64 (gd out1 1 0) (imul .i64 (gd c2.2.2.1 t1.toNat 0) (gd plan2 t1.toNat 0)))) 2 (iadd .i64 (gd (List.set out1 1 (iadd .i64 (gd out1 1 0) (imul .i64 (gd c2.2.2.1 t1.toNat 0) (gd plan2 t1.toNat 0)))) 2 0) (imul .i64 (gd c2.2.2.2 t1.toNat 0) (gd stocks1 t1.toNat 0)))) stocks1
def Q152_K2 (N:Nat) (v42:List Int) (out2:List Int):Option Y1:=
 some (out2,())
def Q152_B1 (N:Nat) (kx:(List Int)→Int→Y0→(List Int)→(List Int)→(List Int)→Option Y1) (plan1:List Int) (t:Int) (c1:(List Int)×(List Int)×(List Int)×(List Int)) (v4:List Int) (out:List Int) (stocks:List Int):Option Y1:=
 bif ilt t (len plan1) then
  chk (inB t plan1.length)<|
  bif ilt 0 (gd plan1 t.toNat 0) then
   chk (inB 0 3)<|
   chk (inB t c1.2.1.length)<|
   chk (inB 0 3)<|
   Q152_K1 N kx plan1 t c1 v4 (List.set out 0 (iadd .i64 (gd out 0 0) (gd c1.2.1 t.toNat 0))) stocks
  else
   Q152_K1 N kx plan1 t c1 v4 out stocks
 else
  Q152_K2 N v4 out
def Q152_L1 (N fu_:Nat):=it_2_4 (Q152_B1 N) fu_
def Q152_L1_run (N:Nat):=run6 (Q152_B1 N) (Q152_L1 N) (fun _ _ _ _ _ _ _=>rfl)
def Q152 (N:Nat) (c:(List Int)×(List Int)×(List Int)×(List Int)) (plan:List Int):Option Y1:=
 (Q154 N c plan).bind fun r=>
 Q152_L1 N N plan 0 c (List.replicate 3 0) (List.replicate 3 0) r.1
def Q147 (N:Nat) (c:(List Int)×(List Int)×(List Int)×(List Int)) (plan:List Int):Option Y4:=
 (Q152 N c plan).bind fun r=>
 chk (inB 0 3)<|
 chk (inB 1 3)<|
 chk (inB 2 3)<|
 some (iadd .i64 (iadd .i64 (gd r.1 0 0) (gd r.1 1 0)) (gd r.1 2 0),())
def Q146_K1 (N:Nat) (out1:List Int):Option Y1:=
 some (out1,())
def Q146_B1 (N:Nat) (kx:Int→Int→Int→(List Int)→Option Y1) (n1:Int) (code1:Int) (x:Int) (out:List Int):Option Y1:=
 bif ilt x n1 then
  chk (ile 0 x)<|
  bif ieq (iand .i64 (ishr .i64 code1 x) 1) 1 then
   chk (fitB (out.length+1) 8)<|
   kx n1 code1 (iadd .i64 x 1) (out++[x])
  else
   kx n1 code1 (iadd .i64 x 1) out
 else
  Q146_K1 N out
def Q146_L1 (N fu_:Nat):=it_3_1 (Q146_B1 N) fu_
def Q146_L1_run (N:Nat):=run4 (Q146_B1 N) (Q146_L1 N) (fun _ _ _ _ _=>rfl)
def Q146 (N:Nat) (n:Int) (code:Int):Option Y1:=
 Q146_L1 N N n code 0 []
def Q148_K1 (N:Nat):Option Y5:=
 some (true,())
def Q148_B1 (N:Nat) (kx:(List Int)→Int→Y0→Option Y5) (periods1:List Int) (t:Int) (c1:(List Int)×(List Int)×(List Int)×(List Int)):Option Y5:=
 bif ilt t (len c1.1) then
  bif ilt 0 (len periods1) then
   chk (inB 0 periods1.length)<|
   bif ile (gd periods1 0 0) t then
    some (true,())
   else
    chk (inB t c1.1.length)<|
    bif ilt 0 (gd c1.1 t.toNat 0) then
     some (false,())
    else
     kx periods1 (iadd .i64 t 1) c1
  else
   chk (inB t c1.1.length)<|
   bif ilt 0 (gd c1.1 t.toNat 0) then
    some (false,())
   else
    kx periods1 (iadd .i64 t 1) c1
 else
  Q148_K1 N
def Q148_L1 (N fu_:Nat):=it_2_1 (Q148_B1 N) fu_
def Q148_L1_run (N:Nat):=run3 (Q148_B1 N) (Q148_L1 N) (fun _ _ _ _=>rfl)
def Q148 (N:Nat) (c:(List Int)×(List Int)×(List Int)×(List Int)) (periods:List Int):Option Y5:=
 Q148_L1 N N periods 0 c
def Q144_K1 (N:Nat):Option Y5:=
 some (false,())
def Q144_B1 (N:Nat) (kx:(List Int)→(List Int)→Int→Option Y5) (a1:List Int) (b1:List Int) (i:Int):Option Y5:=
 bif ilt i (len a1) then
  chk (inB i a1.length)<|
  chk (inB i b1.length)<|
  bif ine (gd a1 i.toNat 0) (gd b1 i.toNat 0) then
   chk (inB i a1.length)<|
   chk (inB i b1.length)<|
   some (ilt (gd a1 i.toNat 0) (gd b1 i.toNat 0),())
  else
   kx a1 b1 (iadd .i64 i 1)
 else
  Q144_K1 N
def Q144_L1 (N fu_:Nat):=it_3_0 (Q144_B1 N) fu_
def Q144_L1_run (N:Nat):=run3 (Q144_B1 N) (Q144_L1 N) (fun _ _ _ _=>rfl)
def Q144 (N:Nat) (a:List Int) (b:List Int):Option Y5:=
 bif ine (len a) (len b) then
  some (ilt (len a) (len b),())
 else
  Q144_L1 N N a b 0
def Q145_K1 (N:Nat) (best1:List Int):Option Y1:=
 some (best1,())
def Q145_B1 (N:Nat) (kx:Int→Int→Y0→(List Int)→Option Y1) (least:Int) (code:Int) (c1:(List Int)×(List Int)×(List Int)×(List Int)) (best:List Int):Option Y1:=
 chk (ile 0 (len c1.1))<|
 bif ilt code (ishl .i64 1 (len c1.1)) then
  (Q146 N (len c1.1) code).bind fun r=>
  (Q148 N c1 r.1).bind fun r1=>
  bif !r1.1 then
   kx least (iadd .i64 code 1) c1 best
  else
   (Q149 N c1 r.1).bind fun r2=>
   (Q147 N c1 r2.1).bind fun r3=>
   bif ilt least 0 then
    kx r3.1 (iadd .i64 code 1) c1 r.1
   else
    bif ilt r3.1 least then
     kx r3.1 (iadd .i64 code 1) c1 r.1
    else
     bif ieq r3.1 least then
      (Q144 N r.1 best).bind fun r4=>
      bif r4.1 then
       kx r3.1 (iadd .i64 code 1) c1 r.1
      else
       kx least (iadd .i64 code 1) c1 best
     else
      kx least (iadd .i64 code 1) c1 best
 else
  Q145_K1 N best
def Q145_L1 (N fu_:Nat):=it_2_2 (Q145_B1 N) fu_
def Q145_L1_run (N:Nat):=run4 (Q145_B1 N) (Q145_L1 N) (fun _ _ _ _ _=>rfl)
def Q145 (N:Nat) (c:(List Int)×(List Int)×(List Int)×(List Int)):Option Y1:=
 Q145_L1 N N (-1) 0 c []
def Q119 (N:Nat) (l:Y0×(List Int)×Int) (a:Int×Int×Int×Int×Int):Option (Y3×Unit):=
 (Q124 N l).bind fun r=>
 bif ieq a.1 1 then
  chk (fitB (r.1.1.1.length+1) 8)<|
  chk (fitB (r.1.1.2.1.length+1) 8)<|
  chk (fitB (r.1.1.2.2.1.length+1) 8)<|
  chk (fitB (r.1.1.2.2.2.length+1) 8)<|
  chk (fitB (r.1.2.1.length+1) 8)<|
  some (((r.1.1.1++[a.2.1],(r.1.1.2.1++[a.2.2.1],(r.1.1.2.2.1++[a.2.2.2.1],r.1.1.2.2.2++[a.2.2.2.2]))),(r.1.2.1++[0],r.1.2.2)),())
 else
  bif ieq a.1 2 then
   chk (inB a.2.1 r.1.1.1.length)<|
   some (((List.set r.1.1.1 a.2.1.toNat a.2.2.1,r.1.1.2),r.1.2),())
  else
   bif ieq a.1 3 then
    chk (inB a.2.1 r.1.2.1.length)<|
    some ((r.1.1,(List.set r.1.2.1 a.2.1.toNat a.2.2.1,r.1.2.2)),())
   else
    bif ieq a.1 4 then
     some ((r.1.1,(r.1.2.1,iadd .i64 l.2.2 1)),())
    else
     bif ieq a.1 5 then
      (Q106 N l).bind fun r1=>
      chk (cutB 0 l.2.2 l.2.1.length)<|
      (Q138 N (cut l.2.1 0 l.2.2)).bind fun r2=>
      (Q145 N r1.1).bind fun r3=>
      (Q149 N r1.1 r3.1).bind fun r4=>
      chk (fitB (r2.1.length+r4.1.length) 8)<|
      some ((r.1.1,(r2.1++r4.1,r.1.2.2)),())
     else
      bif ieq a.1 6 then
       chk (cutB 0 l.2.2 l.2.1.length)<|
       (Q138 N (cut l.2.1 0 l.2.2)).bind fun r5=>
       chk (mkZ (isub .i64 (len l.2.1) l.2.2) r5.1.length 8)<|
       some ((r.1.1,(r5.1++(List.replicate (isub .i64 (len l.2.1) l.2.2).toNat 0),r.1.2.2)),())
      else
       some (r.1,())
def Q111 (N:Nat) (l:Y0×(List Int)×Int) (a:Int×Int×Int×Int×Int):Option ((Y3×Bool)×Unit):=
 (Q125 N a).bind fun r=>
 bif !r.1 then
  some (((([],([],([],[]))),([],0)),false),())
 else
  (Q120 N l a).bind fun r1=>
  bif !r1.1 then
   some (((([],([],([],[]))),([],0)),false),())
  else
   (Q119 N l a).bind fun r2=>
   (Q115 N r2.1).bind fun r3=>
   bif !r3.1 then
    some (((([],([],([],[]))),([],0)),false),())
   else
    some ((r2.1,true),())
def Q121_K1 (N:Nat) (s1:ByteArray):Option Y8:=
 bif Go.Rx.seq s1 (⟨#[]⟩:ByteArray) then
  some ((⟨#[110,111,110,101]⟩:ByteArray),())
 else
  some (s1,())
def Q121_B1 (N:Nat) (kx:(List Int)→ByteArray→Int→Option Y8) (list1:List Int) (s:ByteArray) (i:Int):Option Y8:=
 bif ilt i (len list1) then
  bif ilt 0 i then
   chk (sfit s (⟨#[32]⟩:ByteArray))<|
   chk (inB i list1.length)<|
   (Q137 N (gd list1 i.toNat 0)).bind fun r=>
   chk (sfit (scat s (⟨#[32]⟩:ByteArray)) r.1)<|
   kx list1 (scat (scat s (⟨#[32]⟩:ByteArray)) r.1) (iadd .i64 i 1)
  else
   chk (inB i list1.length)<|
   (Q137 N (gd list1 i.toNat 0)).bind fun r1=>
   chk (sfit s r1.1)<|
   kx list1 (scat s r1.1) (iadd .i64 i 1)
 else
  Q121_K1 N s
def Q121_L1 (N fu_:Nat):=it_3_0 (Q121_B1 N) fu_
def Q121_L1_run (N:Nat):=run3 (Q121_B1 N) (Q121_L1 N) (fun _ _ _ _=>rfl)
def Q121 (N:Nat) (list:List Int):Option Y8:=
 Q121_L1 N N list (⟨#[]⟩:ByteArray) 0
def Q129_K1 (N:Nat) (out1:List Int):Option Y1:=
 some (out1,())
def Q129_B1 (N:Nat) (kx:Int→Y3→(List Int)→Option Y1) (t:Int) (l1:Y0×(List Int)×Int) (out:List Int):Option Y1:=
 bif ilt t (len l1.2.1) then
  (Q130 N l1 (iadd .i64 t 1)).bind fun r=>
  bif ilt r.1 0 then
   chk (fitB (out.length+1) 8)<|
   kx (iadd .i64 t 1) l1 (out++[t])
  else
   kx (iadd .i64 t 1) l1 out
 else
  Q129_K1 N out
def Q129_L1 (N fu_:Nat):=it_1_2 (Q129_B1 N) fu_
def Q129_L1_run (N:Nat):=run3 (Q129_B1 N) (Q129_L1 N) (fun _ _ _ _=>rfl)
def Q129 (N:Nat) (l:Y0×(List Int)×Int):Option Y1:=
 Q129_L1 N N l.2.2 l []
def Q112 (N:Nat) (l:Y0×(List Int)×Int) (a:Int×Int×Int×Int×Int):Option Y13:=
 (Q111 N l a).bind fun r=>
 bif !r.1.2 then
  some ((l,(⟨#[63]⟩:ByteArray)),())
 else
  bif ieq a.1 1 then
   (Q137 N (len r.1.1.2.1)).bind fun r1=>
   some ((r.1.1,r1.1),())
  else
   bif ieq a.1 4 then
    (Q130 N r.1.1 r.1.1.2.2).bind fun r2=>
    (Q137 N r2.1).bind fun r3=>
    some ((r.1.1,r3.1),())
   else
    bif ieq a.1 5 then
     (Q121 N r.1.1.2.1).bind fun r4=>
     some ((r.1.1,r4.1),())
    else
     (Q129 N r.1.1).bind fun r5=>
     (Q121 N r5.1).bind fun r6=>
     some ((r.1.1,r6.1),())
def Q118 (N:Nat) (list:List Int) (ok:Bool):Option Y8:=
 bif !ok then
  some ((⟨#[63]⟩:ByteArray),())
 else
  (Q121 N list).bind fun r=>
  some (r.1,())
def Q128 (N:Nat) (n:Int) (ok:Bool):Option Y8:=
 bif !ok then
  some ((⟨#[63]⟩:ByteArray),())
 else
  (Q137 N n).bind fun r=>
  some (r.1,())
def Q109_K1 (N:Nat) (sum1:Int):Option Y4:=
 some (sum1,())
def Q109_B1 (N:Nat) (kx:Int→Int→Int→Y3→Option Y4) (to1:Int) (sum:Int) (t:Int) (l1:Y0×(List Int)×Int):Option Y4:=
 bif ilt t to1 then
  chk (inB t l1.1.2.2.1.length)<|
  chk (inB t l1.2.1.length)<|
  chk (inB t l1.1.2.2.2.length)<|
  (Q130 N l1 (iadd .i64 t 1)).bind fun r=>
  chk (inB t l1.2.1.length)<|
  bif ilt 0 (gd l1.2.1 t.toNat 0) then
   chk (inB t l1.1.2.1.length)<|
   kx to1 (iadd .i64 (iadd .i64 (iadd .i64 sum (imul .i64 (gd l1.1.2.2.1 t.toNat 0) (gd l1.2.1 t.toNat 0))) (imul .i64 (gd l1.1.2.2.2 t.toNat 0) r.1)) (gd l1.1.2.1 t.toNat 0)) (iadd .i64 t 1) l1
  else
   kx to1 (iadd .i64 (iadd .i64 sum (imul .i64 (gd l1.1.2.2.1 t.toNat 0) (gd l1.2.1 t.toNat 0))) (imul .i64 (gd l1.1.2.2.2 t.toNat 0) r.1)) (iadd .i64 t 1) l1
 else
  Q109_K1 N sum
def Q109_L1 (N fu_:Nat):=it_3_1 (Q109_B1 N) fu_
def Q109_L1_run (N:Nat):=run4 (Q109_B1 N) (Q109_L1 N) (fun _ _ _ _ _=>rfl)
def Q109 (N:Nat) (l:Y0×(List Int)×Int) (fromx:Int) (to:Int):Option Y4:=
 Q109_L1 N N to 0 fromx l
def Q97 (N:Nat) (l:Y0×(List Int)×Int):Option Y7:=
 (Q115 N l).bind fun r=>
 bif !r.1 then
  some ((0,false),())
 else
  (Q129 N l).bind fun r1=>
  bif ilt 0 (len r1.1) then
   some ((0,false),())
  else
   (Q109 N l l.2.2 (len l.2.1)).bind fun r2=>
   some ((r2.1,true),())
def Q156_K1 (N:Nat) (kx:ByteArray→Int→Y0→Option Y8) (s1:ByteArray) (t1:Int) (c2:(List Int)×(List Int)×(List Int)×(List Int)):Option Y8:=
 chk (inB t1 c2.1.length)<|
 (Q137 N (gd c2.1 t1.toNat 0)).bind fun r=>
 chk (sfit s1 r.1)<|
 chk (sfit (scat s1 r.1) (⟨#[47]⟩:ByteArray))<|
 chk (inB t1 c2.2.1.length)<|
 (Q137 N (gd c2.2.1 t1.toNat 0)).bind fun r1=>
 chk (sfit (scat (scat s1 r.1) (⟨#[47]⟩:ByteArray)) r1.1)<|
 chk (sfit (scat (scat (scat s1 r.1) (⟨#[47]⟩:ByteArray)) r1.1) (⟨#[47]⟩:ByteArray))<|
 chk (inB t1 c2.2.2.1.length)<|
 (Q137 N (gd c2.2.2.1 t1.toNat 0)).bind fun r2=>
 chk (sfit (scat (scat (scat (scat s1 r.1) (⟨#[47]⟩:ByteArray)) r1.1) (⟨#[47]⟩:ByteArray)) r2.1)<|
 chk (sfit (scat (scat (scat (scat (scat s1 r.1) (⟨#[47]⟩:ByteArray)) r1.1) (⟨#[47]⟩:ByteArray)) r2.1) (⟨#[47]⟩:ByteArray))<|
 chk (inB t1 c2.2.2.2.length)<|
 (Q137 N (gd c2.2.2.2 t1.toNat 0)).bind fun r3=>
 chk (sfit (scat (scat (scat (scat (scat (scat s1 r.1) (⟨#[47]⟩:ByteArray)) r1.1) (⟨#[47]⟩:ByteArray)) r2.1) (⟨#[47]⟩:ByteArray)) r3.1)<|
 kx (scat (scat (scat (scat (scat (scat (scat s1 r.1) (⟨#[47]⟩:ByteArray)) r1.1) (⟨#[47]⟩:ByteArray)) r2.1) (⟨#[47]⟩:ByteArray)) r3.1) (iadd .i64 t1 1) c2
def Q156_K2 (N:Nat) (s2:ByteArray) (c3:(List Int)×(List Int)×(List Int)×(List Int)):Option Y8:=
 bif ieq (len c3.1) 0 then
  some ((⟨#[110,111,110,101]⟩:ByteArray),())
 else
  some (s2,())
def Q156_B1 (N:Nat) (kx:ByteArray→Int→Y0→Option Y8) (s:ByteArray) (t:Int) (c1:(List Int)×(List Int)×(List Int)×(List Int)):Option Y8:=
 bif ilt t (len c1.1) then
  bif ilt 0 t then
   chk (sfit s (⟨#[32]⟩:ByteArray))<|
   Q156_K1 N kx (scat s (⟨#[32]⟩:ByteArray)) t c1
  else
   Q156_K1 N kx s t c1
 else
  Q156_K2 N s c1
def Q156_L1 (N fu_:Nat):=it_2_1 (Q156_B1 N) fu_
def Q156_L1_run (N:Nat):=run3 (Q156_B1 N) (Q156_L1 N) (fun _ _ _ _=>rfl)
def Q156 (N:Nat) (c:(List Int)×(List Int)×(List Int)×(List Int)):Option Y8:=
 Q156_L1 N N (⟨#[]⟩:ByteArray) 0 c
def Q151 (N:Nat) (c:(List Int)×(List Int)×(List Int)×(List Int)):Option Y4:=
 (Q145 N c).bind fun r=>
 (Q149 N c r.1).bind fun r1=>
 (Q147 N c r1.1).bind fun r2=>
 some (r2.1,())
def Q95 (N:Nat) (c:(List Int)×(List Int)×(List Int)×(List Int)):Option Y7:=
 (Q150 N c).bind fun r=>
 bif !r.1 then
  some ((0,false),())
 else
  (Q151 N c).bind fun r1=>
  some ((r1.1,true),())
def Q162_K1 (N:Nat) (sum1:Int):Option Y4:=
 some (sum1,())
def Q162_B1 (N:Nat) (kx1:Int→Int→Int→Y0→Option Y4) (t1:Int) (sum:Int) (kx:Int) (c1:(List Int)×(List Int)×(List Int)×(List Int)):Option Y4:=
 bif ilt kx t1 then
  chk (inB kx c1.2.2.2.length)<|
  kx1 t1 (iadd .i64 sum (gd c1.2.2.2 kx.toNat 0)) (iadd .i64 kx 1) c1
 else
  Q162_K1 N sum
def Q162_L1 (N fu_:Nat):=it_3_1 (Q162_B1 N) fu_
def Q162_L1_run (N:Nat):=run4 (Q162_B1 N) (Q162_L1 N) (fun _ _ _ _ _=>rfl)
def Q162 (N:Nat) (c:(List Int)×(List Int)×(List Int)×(List Int)) (i:Int) (t:Int):Option Y4:=
 chk (inB i c.2.2.1.length)<|
 Q162_L1 N N t (gd c.2.2.1 i.toNat 0) i c
def Q164_K1 (N:Nat) (i2:Int) (sum1:Int) (any1:Bool) (c2:(List Int)×(List Int)×(List Int)×(List Int)):Option Y4:=
 bif !any1 then
  some (0,())
 else
  chk (inB i2 c2.2.1.length)<|
  some (iadd .i64 (gd c2.2.1 i2.toNat 0) sum1,())
def Q164_B1 (N:Nat) (kx:Int→Int→Int→Bool→Int→Y0→Option Y4) (i1:Int) (j1:Int) (sum:Int) (any:Bool) (t:Int) (c1:(List Int)×(List Int)×(List Int)×(List Int)):Option Y4:=
 bif ilt t j1 then
  chk (inB t c1.1.length)<|
  (Q162 N c1 i1 t).bind fun r=>
  bif any then
   kx i1 j1 (iadd .i64 sum (imul .i64 (gd c1.1 t.toNat 0) r.1)) true (iadd .i64 t 1) c1
  else
   chk (inB t c1.1.length)<|
   kx i1 j1 (iadd .i64 sum (imul .i64 (gd c1.1 t.toNat 0) r.1)) (ilt 0 (gd c1.1 t.toNat 0)) (iadd .i64 t 1) c1
 else
  Q164_K1 N i1 sum any c1
def Q164_L1 (N fu_:Nat):=it_5_1 (Q164_B1 N) fu_
def Q164_L1_run (N:Nat):=run6 (Q164_B1 N) (Q164_L1 N) (fun _ _ _ _ _ _ _=>rfl)
def Q164 (N:Nat) (c:(List Int)×(List Int)×(List Int)×(List Int)) (i:Int) (j:Int):Option Y4:=
 Q164_L1 N N i j 0 false i c
def Q160_K1 (N:Nat) (kx:Int→Y0→(List Int)→(List Int)→Option Y10) (j2:Int) (best1:Int) (c3:(List Int)×(List Int)×(List Int)×(List Int)) (costs2:List Int) (lasts2:List Int):Option Y10:=
 chk (inB best1 costs2.length)<|
 (Q164 N c3 best1 j2).bind fun r2=>
 chk (fitB (costs2.length+1) 8)<|
 chk (fitB (lasts2.length+1) 8)<|
 kx (iadd .i64 j2 1) c3 (costs2++[iadd .i64 (gd costs2 best1.toNat 0) r2.1]) (lasts2++[best1])
def Q160_B1 (N:Nat) (kx:Int→Y0→(List Int)→(List Int)→Option Y10) (kx1:Int→Int→Int→Y0→(List Int)→(List Int)→Option Y10) (j1:Int) (best:Int) (i:Int) (c2:(List Int)×(List Int)×(List Int)×(List Int)) (costs1:List Int) (lasts1:List Int):Option Y10:=
 bif ilt i j1 then
  chk (inB i costs1.length)<|
  (Q164 N c2 i j1).bind fun r=>
  chk (inB best costs1.length)<|
  (Q164 N c2 best j1).bind fun r1=>
  bif ile (iadd .i64 (gd costs1 i.toNat 0) r.1) (iadd .i64 (gd costs1 best.toNat 0) r1.1) then
   kx1 j1 i (iadd .i64 i 1) c2 costs1 lasts1
  else
   kx1 j1 best (iadd .i64 i 1) c2 costs1 lasts1
 else
  Q160_K1 N kx j1 best c2 costs1 lasts1
def Q160_L1 (N fu_:Nat) (kx:Int→Y0→(List Int)→(List Int)→Option Y10):=it_3_3 (Q160_B1 N kx) fu_
def Q160_L1_run (N:Nat) (kx:Int→Y0→(List Int)→(List Int)→Option Y10):=run6 (Q160_B1 N kx) (fun u_=>Q160_L1 N u_ kx) (fun _ _ _ _ _ _ _=>rfl)
def Q160_K2 (N:Nat) (costs3:List Int) (lasts3:List Int):Option Y10:=
 some ((costs3,lasts3),())
def Q160_B2 (N:Nat) (kx:Int→Y0→(List Int)→(List Int)→Option Y10) (j:Int) (c1:(List Int)×(List Int)×(List Int)×(List Int)) (costs:List Int) (lasts:List Int):Option Y10:=
 bif ile j (len c1.1) then
  Q160_L1 N N kx j 0 1 c1 costs lasts
 else
  Q160_K2 N costs lasts
def Q160_L2 (N fu_:Nat):=it_1_3 (Q160_B2 N) fu_
def Q160_L2_run (N:Nat):=run4 (Q160_B2 N) (Q160_L2 N) (fun _ _ _ _ _=>rfl)
def Q160 (N:Nat) (c:(List Int)×(List Int)×(List Int)×(List Int)):Option Y10:=
 Q160_L2 N N 1 c [0] []
def Q100 (N:Nat) (c:(List Int)×(List Int)×(List Int)×(List Int)):Option Y2:=
 (Q150 N c).bind fun r=>
 bif !r.1 then
  some (([],false),())
 else
  (Q160 N c).bind fun r1=>
  some ((r1.1.1,true),())
def Q157_K1 (N:Nat) (kx:Int→Int→Y0→(List Int)→Option Y1) (n2:Int) (i2:Int) (c3:(List Int)×(List Int)×(List Int)×(List Int)) (out2:List Int):Option Y1:=
 kx n2 (isub .i64 i2 1) c3 out2
def Q157_B1 (N:Nat) (kx:Int→Int→Y0→(List Int)→Option Y1) (kx1:Int→Int→Int→Y0→(List Int)→Option Y1) (n1:Int) (i1:Int) (j:Int) (c2:(List Int)×(List Int)×(List Int)×(List Int)) (out1:List Int):Option Y1:=
 bif ilt j n1 then
  chk (inB i1 out1.length)<|
  (Q164 N c2 i1 j).bind fun r1=>
  chk (inB j out1.length)<|
  (Q135 N (gd out1 i1.toNat 0) (iadd .i64 r1.1 (gd out1 j.toNat 0))).bind fun r2=>
  chk (inB i1 out1.length)<|
  kx1 n1 i1 (iadd .i64 j 1) c2 (List.set out1 i1.toNat r2.1)
 else
  Q157_K1 N kx n1 i1 c2 out1
def Q157_L1 (N fu_:Nat) (kx:Int→Int→Y0→(List Int)→Option Y1):=it_3_2 (Q157_B1 N kx) fu_
def Q157_L1_run (N:Nat) (kx:Int→Int→Y0→(List Int)→Option Y1):=run5 (Q157_B1 N kx) (fun u_=>Q157_L1 N u_ kx) (fun _ _ _ _ _ _=>rfl)
def Q157_K2 (N:Nat) (out3:List Int):Option Y1:=
 some (out3,())
def Q157_B2 (N:Nat) (kx:Int→Int→Y0→(List Int)→Option Y1) (n:Int) (i:Int) (c1:(List Int)×(List Int)×(List Int)×(List Int)) (out:List Int):Option Y1:=
 bif ile 0 i then
  (Q164 N c1 i n).bind fun r=>
  chk (inB i out.length)<|
  Q157_L1 N N kx n i (iadd .i64 i 1) c1 (List.set out i.toNat r.1)
 else
  Q157_K2 N out
def Q157_L2 (N fu_:Nat):=it_2_2 (Q157_B2 N) fu_
def Q157_L2_run (N:Nat):=run4 (Q157_B2 N) (Q157_L2 N) (fun _ _ _ _ _=>rfl)
def Q157 (N:Nat) (c:(List Int)×(List Int)×(List Int)×(List Int)):Option Y1:=
 chk (mkB (iadd .i64 (len c.1) 1) 8)<|
 Q157_L2 N N (len c.1) (isub .i64 (len c.1) 1) c (List.replicate (iadd .i64 (len c.1) 1).toNat 0)
def Q105_K1 (N:Nat) (out1:List Int):Option Y2:=
 some ((out1,true),())
def Q105_B1 (N:Nat) (kx:Int→(List Int)→((List Int)×(List Int))→(List Int)→Option Y2) (i:Int) (out:List Int) (b16:(List Int)×(List Int)) (back:List Int):Option Y2:=
 bif ilt i (len b16.1) then
  chk (inB i b16.1.length)<|
  chk (inB i back.length)<|
  chk (inB 0 back.length)<|
  bif ieq (iadd .i64 (gd b16.1 i.toNat 0) (gd back i.toNat 0)) (gd back 0 0) then
   chk (fitB (out.length+1) 8)<|
   kx (iadd .i64 i 1) (out++[i]) b16 back
  else
   kx (iadd .i64 i 1) out b16 back
 else
  Q105_K1 N out
def Q105_L1 (N fu_:Nat):=it_1_3 (Q105_B1 N) fu_
def Q105_L1_run (N:Nat):=run4 (Q105_B1 N) (Q105_L1 N) (fun _ _ _ _ _=>rfl)
def Q105 (N:Nat) (c:(List Int)×(List Int)×(List Int)×(List Int)):Option Y2:=
 (Q150 N c).bind fun r=>
 bif !r.1 then
  some (([],false),())
 else
  (Q160 N c).bind fun r1=>
  (Q157 N c).bind fun r2=>
  Q105_L1 N N 0 [] r1.1 r2.1
def Q101_K1 (N:Nat) (out1:List Int):Option Y2:=
 some ((out1,true),())
def Q101_B1 (N:Nat) (kx:Int→Y0→(List Int)→((List Int)×(List Int))→Option Y2) (h:Int) (c1:(List Int)×(List Int)×(List Int)×(List Int)) (out:List Int) (b15:(List Int)×(List Int)):Option Y2:=
 bif ile h (len b15.2) then
  chk (inB (isub .i64 h 1) b15.2.length)<|
  bif ieq (gd b15.2 (isub .i64 h 1).toNat 0) (isub .i64 h 1) then
   chk (inB (isub .i64 h 1) c1.1.length)<|
   bif ilt 0 (gd c1.1 (isub .i64 h 1).toNat 0) then
    chk (fitB (out.length+1) 8)<|
    kx (iadd .i64 h 1) c1 (out++[h]) b15
   else
    kx (iadd .i64 h 1) c1 out b15
  else
   kx (iadd .i64 h 1) c1 out b15
 else
  Q101_K1 N out
def Q101_L1 (N fu_:Nat):=it_1_3 (Q101_B1 N) fu_
def Q101_L1_run (N:Nat):=run4 (Q101_B1 N) (Q101_L1 N) (fun _ _ _ _ _=>rfl)
def Q101 (N:Nat) (c:(List Int)×(List Int)×(List Int)×(List Int)):Option Y2:=
 (Q150 N c).bind fun r=>
 bif !r.1 then
  some (([],false),())
 else
  (Q160 N c).bind fun r1=>
  Q101_L1 N N 1 c [] r1.1
def Q136 (N:Nat) (a:Int) (b:Int):Option Y4:=
 bif ilt b a then
  some (a,())
 else
  some (b,())
def Q159_K1 (N:Nat) (sum1:Int):Option Y4:=
 some (sum1,())
def Q159_B1 (N:Nat) (kx:(List Int)→Int→Int→Int→Y0→Option Y4) (prices1:List Int) (i1:Int) (sum:Int) (t:Int) (c1:(List Int)×(List Int)×(List Int)×(List Int)):Option Y4:=
 bif ilt t (len prices1) then
  chk (inB t prices1.length)<|
  chk (inB t c1.1.length)<|
  (Q162 N c1 i1 t).bind fun r=>
  (Q136 N 0 (isub .i64 (gd prices1 t.toNat 0) (imul .i64 (gd c1.1 t.toNat 0) r.1))).bind fun r1=>
  kx prices1 i1 (iadd .i64 sum r1.1) (iadd .i64 t 1) c1
 else
  Q159_K1 N sum
def Q159_L1 (N fu_:Nat):=it_4_1 (Q159_B1 N) fu_
def Q159_L1_run (N:Nat):=run5 (Q159_B1 N) (Q159_L1 N) (fun _ _ _ _ _ _=>rfl)
def Q159 (N:Nat) (c:(List Int)×(List Int)×(List Int)×(List Int)) (prices:List Int) (i:Int):Option Y4:=
 Q159_L1 N N prices i 0 i c
def Q158_K1 (N:Nat) (kx:Int→Y0→(List Int)→Option Y1) (t2:Int) (least1:Int) (c3:(List Int)×(List Int)×(List Int)×(List Int)) (out2:List Int):Option Y1:=
 chk (fitB (out2.length+1) 8)<|
 kx (iadd .i64 t2 1) c3 (out2++[least1])
def Q158_B1 (N:Nat) (kx:Int→Y0→(List Int)→Option Y1) (kx1:Int→Int→Int→Y0→(List Int)→Option Y1) (t1:Int) (least:Int) (i:Int) (c2:(List Int)×(List Int)×(List Int)×(List Int)) (out1:List Int):Option Y1:=
 bif ile i t1 then
  chk (inB t1 c2.1.length)<|
  bif ilt 0 (gd c2.1 t1.toNat 0) then
   chk (inB t1 c2.1.length)<|
   (Q162 N c2 i t1).bind fun r=>
   chk (inB i c2.2.1.length)<|
   (Q159 N c2 out1 i).bind fun r1=>
   bif ieq i 0 then
    kx1 t1 (isub .i64 (iadd .i64 (imul .i64 (gd c2.1 t1.toNat 0) r.1) (gd c2.2.1 i.toNat 0)) r1.1) (iadd .i64 i 1) c2 out1
   else
    bif ilt (isub .i64 (iadd .i64 (imul .i64 (gd c2.1 t1.toNat 0) r.1) (gd c2.2.1 i.toNat 0)) r1.1) least then
     kx1 t1 (isub .i64 (iadd .i64 (imul .i64 (gd c2.1 t1.toNat 0) r.1) (gd c2.2.1 i.toNat 0)) r1.1) (iadd .i64 i 1) c2 out1
    else
     kx1 t1 least (iadd .i64 i 1) c2 out1
  else
   Q158_K1 N kx t1 least c2 out1
 else
  Q158_K1 N kx t1 least c2 out1
def Q158_L1 (N fu_:Nat) (kx:Int→Y0→(List Int)→Option Y1):=it_3_2 (Q158_B1 N kx) fu_
def Q158_L1_run (N:Nat) (kx:Int→Y0→(List Int)→Option Y1):=run5 (Q158_B1 N kx) (fun u_=>Q158_L1 N u_ kx) (fun _ _ _ _ _ _=>rfl)
def Q158_K2 (N:Nat) (out3:List Int):Option Y1:=
 some (out3,())
def Q158_B2 (N:Nat) (kx:Int→Y0→(List Int)→Option Y1) (t:Int) (c1:(List Int)×(List Int)×(List Int)×(List Int)) (out:List Int):Option Y1:=
 bif ilt t (len c1.1) then
  Q158_L1 N N kx t 0 0 c1 out
 else
  Q158_K2 N out
def Q158_L2 (N fu_:Nat):=it_1_2 (Q158_B2 N) fu_
def Q158_L2_run (N:Nat):=run3 (Q158_B2 N) (Q158_L2 N) (fun _ _ _ _=>rfl)
def Q158 (N:Nat) (c:(List Int)×(List Int)×(List Int)×(List Int)):Option Y1:=
 Q158_L2 N N 0 c []
def Q99 (N:Nat) (c:(List Int)×(List Int)×(List Int)×(List Int)):Option Y2:=
 (Q150 N c).bind fun r=>
 bif !r.1 then
  some (([],false),())
 else
  (Q158 N c).bind fun r1=>
  some ((r1.1,true),())
def Q131 (N:Nat) (l:Y0×(List Int)×Int) (line:ByteArray):Option Y8:=
 bif Go.Rx.seq line (⟨#[110,111,119]⟩:ByteArray) then
  (Q137 N l.2.2).bind fun r=>
  some (r.1,())
 else
  bif Go.Rx.seq line (⟨#[115,116,111,99,107]⟩:ByteArray) then
   (Q130 N l l.2.2).bind fun r1=>
   (Q137 N r1.1).bind fun r2=>
   some (r2.1,())
  else
   bif Go.Rx.seq line (⟨#[99,111,115,116]⟩:ByteArray) then
    (Q109 N l 0 l.2.2).bind fun r3=>
    (Q137 N r3.1).bind fun r4=>
    some (r4.1,())
   else
    bif Go.Rx.seq line (⟨#[97,104,101,97,100]⟩:ByteArray) then
     (Q97 N l).bind fun r5=>
     (Q128 N r5.1.1 r5.1.2).bind fun r6=>
     some (r6.1,())
    else
     bif Go.Rx.seq line (⟨#[115,104,111,114,116]⟩:ByteArray) then
      (Q129 N l).bind fun r7=>
      (Q121 N r7.1).bind fun r8=>
      some (r8.1,())
     else
      bif Go.Rx.seq line (⟨#[108,101,102,116]⟩:ByteArray) then
       (Q116 N l).bind fun r9=>
       (Q121 N r9.1).bind fun r10=>
       some (r10.1,())
      else
       bif Go.Rx.seq line (⟨#[112,108,97,110]⟩:ByteArray) then
        (Q121 N l.2.1).bind fun r11=>
        some (r11.1,())
       else
        bif Go.Rx.seq line (⟨#[99,97,115,101]⟩:ByteArray) then
         (Q156 N l.1).bind fun r12=>
         some (r12.1,())
        else
         bif Go.Rx.seq line (⟨#[98,101,115,116]⟩:ByteArray) then
          (Q95 N l.1).bind fun r13=>
          (Q128 N r13.1.1 r13.1.2).bind fun r14=>
          some (r14.1,())
         else
          bif Go.Rx.seq line (⟨#[116,97,98,108,101]⟩:ByteArray) then
           (Q100 N l.1).bind fun r15=>
           (Q118 N r15.1.1 r15.1.2).bind fun r16=>
           some (r16.1,())
          else
           bif Go.Rx.seq line (⟨#[116,117,114,110,115]⟩:ByteArray) then
            (Q105 N l.1).bind fun r17=>
            (Q118 N r17.1.1 r17.1.2).bind fun r18=>
            some (r18.1,())
           else
            bif Go.Rx.seq line (⟨#[104,111,114,105,122,111,110,115]⟩:ByteArray) then
             (Q101 N l.1).bind fun r19=>
             (Q118 N r19.1.1 r19.1.2).bind fun r20=>
             some (r20.1,())
            else
             bif Go.Rx.seq line (⟨#[112,114,105,99,101,115]⟩:ByteArray) then
              (Q99 N l.1).bind fun r21=>
              (Q118 N r21.1.1 r21.1.2).bind fun r22=>
              some (r22.1,())
             else
              some ((⟨#[63]⟩:ByteArray),())
def Q133 (N:Nat) (l:Y0×(List Int)×Int) (line:ByteArray):Option Y13:=
 bif Go.Rx.seq line (⟨#[115,116,101,112]⟩:ByteArray) then
  (Q112 N l (4,(0,(0,(0,0))))).bind fun r=>
  some ((r.1.1,r.1.2),())
 else
  bif Go.Rx.seq line (⟨#[114,101,112,108,97,110]⟩:ByteArray) then
   (Q112 N l (5,(0,(0,(0,0))))).bind fun r1=>
   some ((r1.1.1,r1.1.2),())
  else
   bif Go.Rx.seq line (⟨#[99,108,101,97,114]⟩:ByteArray) then
    (Q112 N l (6,(0,(0,(0,0))))).bind fun r2=>
    some ((r2.1.1,r2.1.2),())
   else
    (Q131 N l line).bind fun r3=>
    some ((l,r3.1),())
def Q139_K1 (N:Nat) (s4:ByteArray) (t3:ByteArray) (n1:Int):Option Y7:=
 bif ilt (slen t3) (slen s4) then
  (Q137 N (isub .i64 0 n1)).bind fun r1=>
  bif !(Go.Rx.seq r1.1 s4) then
   some ((0,false),())
  else
   some ((isub .i64 0 n1,true),())
 else
  (Q137 N n1).bind fun r2=>
  bif !(Go.Rx.seq r2.1 s4) then
   some ((0,false),())
  else
   some ((n1,true),())
def Q139_B1 (N:Nat) (kx:ByteArray→ByteArray→Int→Int→Option Y7) (s3:ByteArray) (t2:ByteArray) (n:Int) (i:Int):Option Y7:=
 bif ilt i (slen t2) then
  chk (inB i t2.size)<|
  bif ilt (sbyte t2 i) 48 then
   some ((0,false),())
  else
   chk (inB i t2.size)<|
   bif ilt 57 (sbyte t2 i) then
    some ((0,false),())
   else
    chk (inB i t2.size)<|
    kx s3 t2 (iadd .i64 (imul .i64 10 n) (icv .i64 (isub .u8 (sbyte t2 i) 48))) (iadd .i64 i 1)
 else
  Q139_K1 N s3 t2 n
def Q139_L1 (N fu_:Nat):=it_4_0 (Q139_B1 N) fu_
def Q139_L1_run (N:Nat):=run4 (Q139_B1 N) (Q139_L1 N) (fun _ _ _ _ _=>rfl)
def Q139_K2 (N:Nat) (s2:ByteArray) (t1:ByteArray):Option Y7:=
 (Q134 N (slen t1) 1 6).bind fun r=>
 bif !r.1 then
  some ((0,false),())
 else
  Q139_L1 N N s2 t1 0 0
def Q139_K3 (N:Nat) (s1:ByteArray) (t:ByteArray) (v15:Bool):Option Y7:=
 bif v15 then
  chk (cutB 1 (slen t) t.size)<|
  Q139_K2 N s1 (scut t 1 (slen t))
 else
  Q139_K2 N s1 t
def Q139 (N:Nat) (s:ByteArray):Option Y7:=
 bif ilt 1 (slen s) then
  chk (inB 0 s.size)<|
  Q139_K3 N s s (ieq (sbyte s 0) 45)
 else
  Q139_K3 N s s false
def Q126_K1 (N:Nat) (out1:List Int):Option Y2:=
 some ((out1,true),())
def Q126_B1 (N:Nat) (kx:Y14→Int→(List Int)→Option Y2) (words1:List ByteArray) (i:Int) (out:List Int):Option Y2:=
 bif ilt i (len words1) then
  chk (inB i words1.length)<|
  (Q139 N (gd words1 i.toNat (⟨#[]⟩:ByteArray))).bind fun r=>
  bif !r.1.2 then
   some (([],false),())
  else
   chk (fitB (out.length+1) 8)<|
   kx words1 (iadd .i64 i 1) (out++[r.1.1])
 else
  Q126_K1 N out
def Q126_L1 (N fu_:Nat):=it_2_1 (Q126_B1 N) fu_
def Q126_L1_run (N:Nat):=run3 (Q126_B1 N) (Q126_L1 N) (fun _ _ _ _=>rfl)
def Q126 (N:Nat) (words:List ByteArray):Option Y2:=
 Q126_L1 N N words 1 []
def Q161 (N:Nat) (c:(List Int)×(List Int)×(List Int)×(List Int)) (rule:Int) (i:Int) (j:Int):Option Y5:=
 (Q164 N c i j).bind fun r=>
 (Q164 N c i (iadd .i64 j 1)).bind fun r1=>
 chk (cutB i j c.1.length)<|
 (Q155 N (cut c.1 i j)).bind fun r2=>
 chk (cutB i (iadd .i64 j 1) c.1.length)<|
 (Q155 N (cut c.1 i (iadd .i64 j 1))).bind fun r3=>
 bif ieq rule 1 then
  some (ilt (imul .i64 r.1 (isub .i64 (iadd .i64 j 1) i)) (imul .i64 r1.1 (isub .i64 j i)),())
 else
  bif ieq rule 2 then
   some (ilt (imul .i64 r.1 r3.1) (imul .i64 r1.1 r2.1),())
  else
   chk (inB i c.2.1.length)<|
   chk (inB i c.2.2.1.length)<|
   chk (inB i c.2.1.length)<|
   some (ilt (gd c.2.1 i.toNat 0) (isub .i64 (isub .i64 r1.1 (gd c.2.1 i.toNat 0)) (imul .i64 (gd c.2.2.1 i.toNat 0) r3.1)),())
def Q163_K1 (N:Nat) (kx:Int→Int→Int→Y0→(List Int)→Option Y1) (rule3:Int) (n2:Int) (i2:Int) (j1:Int) (c3:(List Int)×(List Int)×(List Int)×(List Int)) (out2:List Int):Option Y1:=
 chk (fitB (out2.length+1) 8)<|
 kx rule3 n2 j1 c3 (out2++[i2])
def Q163_B1 (N:Nat) (kx:Int→Int→Int→Y0→(List Int)→Option Y1) (kx1:Int→Int→Int→Int→Y0→(List Int)→Option Y1) (rule2:Int) (n1:Int) (i1:Int) (j:Int) (c2:(List Int)×(List Int)×(List Int)×(List Int)) (out1:List Int):Option Y1:=
 bif ilt j n1 then
  (Q161 N c2 rule2 i1 j).bind fun r=>
  bif !r.1 then
   kx1 rule2 n1 i1 (iadd .i64 j 1) c2 out1
  else
   Q163_K1 N kx rule2 n1 i1 j c2 out1
 else
  Q163_K1 N kx rule2 n1 i1 j c2 out1
def Q163_L1 (N fu_:Nat) (kx:Int→Int→Int→Y0→(List Int)→Option Y1):=it_4_2 (Q163_B1 N kx) fu_
def Q163_L1_run (N:Nat) (kx:Int→Int→Int→Y0→(List Int)→Option Y1):=run6 (Q163_B1 N kx) (fun u_=>Q163_L1 N u_ kx) (fun _ _ _ _ _ _ _=>rfl)
def Q163_K2 (N:Nat) (out3:List Int):Option Y1:=
 some (out3,())
def Q163_B2 (N:Nat) (kx:Int→Int→Int→Y0→(List Int)→Option Y1) (rule1:Int) (n:Int) (i:Int) (c1:(List Int)×(List Int)×(List Int)×(List Int)) (out:List Int):Option Y1:=
 bif ilt i n then
  chk (inB i c1.1.length)<|
  bif ieq (gd c1.1 i.toNat 0) 0 then
   kx rule1 n (iadd .i64 i 1) c1 out
  else
   Q163_L1 N N kx rule1 n i (iadd .i64 i 1) c1 out
 else
  Q163_K2 N out
def Q163_L2 (N fu_:Nat):=it_3_2 (Q163_B2 N) fu_
theorem Q163_L2_succ (N fu_:Nat) (rule1:Int) (n:Int) (i:Int) (c1:(List Int)×(List Int)×(List Int)×(List Int)) (out:List Int):Q163_L2 N (fu_+1) rule1 n i c1 out=Q163_B2 N (fun rule1 n i c1 out=>Q163_L2 N fu_ rule1 n i c1 out) rule1 n i c1 out:=rfl
def Q163 (N:Nat) (c:(List Int)×(List Int)×(List Int)×(List Int)) (rule:Int):Option Y1:=
 Q163_L2 N N rule (len c.1) 0 c []
def Q104 (N:Nat) (c:(List Int)×(List Int)×(List Int)×(List Int)) (rule:Int):Option Y2:=
 (Q150 N c).bind fun r=>
 bif !r.1 then
  some (([],false),())
 else
  (Q134 N rule 1 3).bind fun r1=>
  bif !r1.1 then
   some (([],false),())
  else
   (Q163 N c rule).bind fun r2=>
   some ((r2.1,true),())
def Q103 (N:Nat) (c:(List Int)×(List Int)×(List Int)×(List Int)) (rule:Int):Option Y7:=
 (Q150 N c).bind fun r=>
 bif !r.1 then
  some ((0,false),())
 else
  (Q134 N rule 1 3).bind fun r1=>
  bif !r1.1 then
   some ((0,false),())
  else
   (Q163 N c rule).bind fun r2=>
   (Q149 N c r2.1).bind fun r3=>
   (Q147 N c r3.1).bind fun r4=>
   (Q157 N c).bind fun r5=>
   chk (inB 0 r5.1.length)<|
   some ((isub .i64 r4.1 (gd r5.1 0 0),true),())
def Q167 (N:Nat) (c:(List Int)×(List Int)×(List Int)×(List Int)) (life:Int):Option Y5:=
 (Q150 N c).bind fun r=>
 bif r.1 then
  (Q134 N life 1 8).bind fun r1=>
  some (r1.1,())
 else
  some (false,())
def Q168_K1 (N:Nat) (best1:Int):Option Y4:=
 some (best1,())
def Q168_B1 (N:Nat) (kx:Int→(List Int)→Int→Int→Int→Y0→Option Y4) (life1:Int) (periods1:List Int) (t1:Int) (best:Int) (i:Int) (c1:(List Int)×(List Int)×(List Int)×(List Int)):Option Y4:=
 bif ilt i (len periods1) then
  chk (inB i periods1.length)<|
  bif ile (gd periods1 i.toNat 0) t1 then
   bif ilt t1 (iadd .i64 (gd periods1 i.toNat 0) life1) then
    (Q162 N c1 (gd periods1 i.toNat 0) t1).bind fun r=>
    bif ilt best 0 then
     kx life1 periods1 t1 r.1 (iadd .i64 i 1) c1
    else
     bif ilt r.1 best then
      kx life1 periods1 t1 r.1 (iadd .i64 i 1) c1
     else
      kx life1 periods1 t1 best (iadd .i64 i 1) c1
   else
    kx life1 periods1 t1 best (iadd .i64 i 1) c1
  else
   kx life1 periods1 t1 best (iadd .i64 i 1) c1
 else
  Q168_K1 N best
def Q168_L1 (N fu_:Nat):=it_5_1 (Q168_B1 N) fu_
def Q168_L1_run (N:Nat):=run6 (Q168_B1 N) (Q168_L1 N) (fun _ _ _ _ _ _ _=>rfl)
def Q168 (N:Nat) (c:(List Int)×(List Int)×(List Int)×(List Int)) (life:Int) (periods:List Int) (t:Int):Option Y4:=
 Q168_L1 N N life periods t (-1) 0 c
def Q166_K1 (N:Nat) (kx1:Int→(List Int)→Int→Int→Y0→Option Y4) (life4:Int) (periods4:List Int) (sum3:Int) (t1:Int) (rate:Int) (v48:Bool) (c4:(List Int)×(List Int)×(List Int)×(List Int)):Option Y4:=
 bif v48 then
  some ((-1),())
 else
  chk (inB t1 c4.1.length)<|
  bif ilt 0 (gd c4.1 t1.toNat 0) then
   chk (inB t1 c4.1.length)<|
   kx1 life4 periods4 (iadd .i64 sum3 (imul .i64 (gd c4.1 t1.toNat 0) rate)) (iadd .i64 t1 1) c4
  else
   kx1 life4 periods4 sum3 (iadd .i64 t1 1) c4
def Q166_K2 (N:Nat) (sum4:Int):Option Y4:=
 some (sum4,())
def Q166_B1 (N:Nat) (kx1:Int→(List Int)→Int→Int→Y0→Option Y4) (life3:Int) (periods3:List Int) (sum2:Int) (t:Int) (c3:(List Int)×(List Int)×(List Int)×(List Int)):Option Y4:=
 bif ilt t (len c3.1) then
  (Q168 N c3 life3 periods3 t).bind fun r=>
  chk (inB t c3.1.length)<|
  bif ilt 0 (gd c3.1 t.toNat 0) then
   Q166_K1 N kx1 life3 periods3 sum2 t r.1 (ilt r.1 0) c3
  else
   Q166_K1 N kx1 life3 periods3 sum2 t r.1 false c3
 else
  Q166_K2 N sum2
def Q166_L1 (N fu_:Nat):=it_4_1 (Q166_B1 N) fu_
def Q166_L1_run (N:Nat):=run5 (Q166_B1 N) (Q166_L1 N) (fun _ _ _ _ _ _=>rfl)
def Q166_K3 (N:Nat) (life2:Int) (periods2:List Int) (sum1:Int) (c2:(List Int)×(List Int)×(List Int)×(List Int)):Option Y4:=
 Q166_L1 N N life2 periods2 sum1 0 c2
def Q166_B2 (N:Nat) (kx:Int→(List Int)→Int→Int→Y0→Option Y4) (life1:Int) (periods1:List Int) (sum:Int) (i:Int) (c1:(List Int)×(List Int)×(List Int)×(List Int)):Option Y4:=
 bif ilt i (len periods1) then
  chk (inB i periods1.length)<|
  chk (inB (gd periods1 i.toNat 0) c1.2.1.length)<|
  kx life1 periods1 (iadd .i64 sum (gd c1.2.1 (gd periods1 i.toNat 0).toNat 0)) (iadd .i64 i 1) c1
 else
  Q166_K3 N life1 periods1 sum c1
def Q166_L2 (N fu_:Nat):=it_4_1 (Q166_B2 N) fu_
def Q166_L2_run (N:Nat):=run5 (Q166_B2 N) (Q166_L2 N) (fun _ _ _ _ _ _=>rfl)
def Q166 (N:Nat) (c:(List Int)×(List Int)×(List Int)×(List Int)) (life:Int) (periods:List Int):Option Y4:=
 Q166_L2 N N life periods 0 0 c
def Q165_K1 (N:Nat) (least1:Int) (best1:List Int):Option Y6:=
 some ((best1,least1),())
def Q165_B1 (N:Nat) (kx:Int→Int→Int→Y0→(List Int)→Option Y6) (life1:Int) (least:Int) (code:Int) (c1:(List Int)×(List Int)×(List Int)×(List Int)) (best:List Int):Option Y6:=
 chk (ile 0 (len c1.1))<|
 bif ilt code (ishl .i64 1 (len c1.1)) then
  (Q146 N (len c1.1) code).bind fun r=>
  (Q166 N c1 life1 r.1).bind fun r1=>
  bif ile 0 r1.1 then
   bif ilt least 0 then
    kx life1 r1.1 (iadd .i64 code 1) c1 r.1
   else
    bif ilt r1.1 least then
     kx life1 r1.1 (iadd .i64 code 1) c1 r.1
    else
     bif ieq r1.1 least then
      (Q144 N r.1 best).bind fun r2=>
      bif r2.1 then
       kx life1 r1.1 (iadd .i64 code 1) c1 r.1
      else
       kx life1 least (iadd .i64 code 1) c1 best
     else
      kx life1 least (iadd .i64 code 1) c1 best
  else
   kx life1 least (iadd .i64 code 1) c1 best
 else
  Q165_K1 N least best
def Q165_L1 (N fu_:Nat):=it_3_2 (Q165_B1 N) fu_
def Q165_L1_run (N:Nat):=run5 (Q165_B1 N) (Q165_L1 N) (fun _ _ _ _ _ _=>rfl)
def Q165 (N:Nat) (c:(List Int)×(List Int)×(List Int)×(List Int)) (life:Int):Option Y6:=
 Q165_L1 N N life (-1) 0 c []
def Q96 (N:Nat) (c:(List Int)×(List Int)×(List Int)×(List Int)) (life:Int):Option (((List Int)×Int×Bool)×Unit):=
 (Q167 N c life).bind fun r=>
 bif !r.1 then
  some (([],(0,false)),())
 else
  (Q165 N c life).bind fun r1=>
  some ((r1.1.1,(r1.1.2,true)),())
def Q114 (N:Nat) (l:Y0×(List Int)×Int) (life:Int):Option Y8:=
 (Q96 N l.1 life).bind fun r=>
 (Q128 N r.1.2.1 r.1.2.2).bind fun r1=>
 some (r1.1,())
def Q122 (N:Nat) (l:Y0×(List Int)×Int) (word:ByteArray) (n:Int):Option Y8:=
 bif Go.Rx.seq word (⟨#[114,117,108,101]⟩:ByteArray) then
  (Q104 N l.1 n).bind fun r=>
  (Q118 N r.1.1 r.1.2).bind fun r1=>
  some (r1.1,())
 else
  bif Go.Rx.seq word (⟨#[103,97,112]⟩:ByteArray) then
   (Q103 N l.1 n).bind fun r2=>
   (Q128 N r2.1.1 r2.1.2).bind fun r3=>
   some (r3.1,())
  else
   bif Go.Rx.seq word (⟨#[102,114,101,115,104]⟩:ByteArray) then
    (Q114 N l n).bind fun r4=>
    some (r4.1,())
   else
    some ((⟨#[63]⟩:ByteArray),())
def Q113 (N:Nat) (l:Y0×(List Int)×Int) (line:ByteArray):Option Y13:=
 (Q141 N line 32).bind fun r=>
 bif ieq (len r.1) 1 then
  (Q133 N l line).bind fun r1=>
  some ((r1.1.1,r1.1.2),())
 else
  (Q126 N r.1).bind fun r2=>
  bif !r2.1.2 then
   some ((l,(⟨#[63]⟩:ByteArray)),())
  else
   bif ieq (len r2.1.1) 1 then
    chk (inB 0 r.1.length)<|
    chk (inB 0 r2.1.1.length)<|
    (Q122 N l (gd r.1 0 (⟨#[]⟩:ByteArray)) (gd r2.1.1 0 0)).bind fun r3=>
    some ((l,r3.1),())
   else
    bif ieq (len r2.1.1) 2 then
     chk (inB 0 r.1.length)<|
     bif Go.Rx.seq (gd r.1 0 (⟨#[]⟩:ByteArray)) (⟨#[110,101,101,100]⟩:ByteArray) then
      chk (inB 0 r2.1.1.length)<|
      chk (inB 1 r2.1.1.length)<|
      (Q112 N l (2,(gd r2.1.1 0 0,(gd r2.1.1 1 0,(0,0))))).bind fun r4=>
      some ((r4.1.1,r4.1.2),())
     else
      chk (inB 0 r.1.length)<|
      bif Go.Rx.seq (gd r.1 0 (⟨#[]⟩:ByteArray)) (⟨#[111,114,100,101,114]⟩:ByteArray) then
       chk (inB 0 r2.1.1.length)<|
       chk (inB 1 r2.1.1.length)<|
       (Q112 N l (3,(gd r2.1.1 0 0,(gd r2.1.1 1 0,(0,0))))).bind fun r5=>
       some ((r5.1.1,r5.1.2),())
      else
       some ((l,(⟨#[63]⟩:ByteArray)),())
    else
     bif ieq (len r2.1.1) 4 then
      chk (inB 0 r.1.length)<|
      bif Go.Rx.seq (gd r.1 0 (⟨#[]⟩:ByteArray)) (⟨#[112,101,114,105,111,100]⟩:ByteArray) then
       chk (inB 0 r2.1.1.length)<|
       chk (inB 1 r2.1.1.length)<|
       chk (inB 2 r2.1.1.length)<|
       chk (inB 3 r2.1.1.length)<|
       (Q112 N l (1,(gd r2.1.1 0 0,(gd r2.1.1 1 0,(gd r2.1.1 2 0,gd r2.1.1 3 0))))).bind fun r6=>
       some ((r6.1.1,r6.1.2),())
      else
       some ((l,(⟨#[63]⟩:ByteArray)),())
     else
      some ((l,(⟨#[63]⟩:ByteArray)),())
def Q94 (N:Nat) (l:ByteArray×ByteArray×Int) (e:ByteArray×ByteArray):Option (((ByteArray×ByteArray×Int)×Int)×Unit):=
 (Q132 N l).bind fun r=>
 bif !r.1 then
  some ((l,1),())
 else
  (Q127 N e).bind fun r1=>
  bif !r1.1 then
   some ((l,1),())
  else
   bif ieq l.2.2 60 then
    some ((l,2),())
   else
    (Q117 N l.2.2 e).bind fun r2=>
    chk (sfit l.2.1 r2.1)<|
    some (((l.1,(scat l.2.1 r2.1,iadd .i64 l.2.2 1)),0),())
def Q98 (N:Nat) (c:Y3×ByteArray×ByteArray×Int) (line:ByteArray):Option ((Y17×ByteArray)×Unit):=
 (Q124 N c.1).bind fun r=>
 (Q102 N c).bind fun r1=>
 bif !r1.1 then
  some (((r.1,c.2),(⟨#[110,111]⟩:ByteArray)),())
 else
  (Q127 N (line,(⟨#[]⟩:ByteArray))).bind fun r2=>
  bif !r2.1 then
   some (((r.1,c.2),(⟨#[98,97,100]⟩:ByteArray)),())
  else
   bif ieq c.2.2.2 60 then
    some (((r.1,c.2),(⟨#[102,117,108,108]⟩:ByteArray)),())
   else
    (Q113 N c.1 line).bind fun r3=>
    (Q94 N c.2 (line,r3.1.2)).bind fun r4=>
    (Q124 N r3.1.1).bind fun r5=>
    some (((r5.1,r4.1.1),r3.1.2),())
def Q87_K1 (N:Nat) (out1:List Int):Option Y1:=
 some (out1,())
def Q87_B1 (N:Nat) (kx:(List Int)→Int→(List Int)→Option Y1) (a1:List Int) (i:Int) (out:List Int):Option Y1:=
 bif ilt i (len a1) then
  chk (inB i a1.length)<|
  chk (inB i out.length)<|
  kx a1 (iadd .i64 i 1) (List.set out i.toNat (gd a1 i.toNat 0))
 else
  Q87_K1 N out
def Q87_L1 (N fu_:Nat):=it_2_1 (Q87_B1 N) fu_
def Q87_L1_run (N:Nat):=run3 (Q87_B1 N) (Q87_L1 N) (fun _ _ _ _=>rfl)
def Q87 (N:Nat) (a:List Int):Option Y1:=
 chk (mkB (len a) 8)<|
 Q87_L1 N N a 0 (List.replicate (len a).toNat 0)
def Q85 (N:Nat) (a:(List Int)×(List Int)×(List Int)×(List Int)):Option (Y0×Unit):=
 (Q87 N a.1).bind fun r=>
 (Q87 N a.2.1).bind fun r1=>
 (Q87 N a.2.2.1).bind fun r2=>
 (Q87 N a.2.2.2).bind fun r3=>
 some ((r.1,(r1.1,(r2.1,r3.1))),())
def Q88 (N:Nat) (a:Y0×(List Int)×Int):Option (Y3×Unit):=
 (Q85 N a.1).bind fun r=>
 (Q87 N a.2.1).bind fun r1=>
 some ((r.1,(r1.1,a.2.2)),())
def Q89 (N:Nat) (a:ByteArray×ByteArray×Int):Option ((ByteArray×ByteArray×Int)×Unit):=
 some ((a.1,(a.2.1,a.2.2)),())
def Q86 (N:Nat) (a:Y3×ByteArray×ByteArray×Int):Option (Y17×Unit):=
 (Q88 N a.1).bind fun r=>
 (Q89 N a.2).bind fun r1=>
 some ((r.1,r1.1),())
def Q66 (N:Nat) (n:Int) (low:Int) (high:Int):Option Y5:=
 bif ile low n then
  some (ile n high,())
 else
  some (false,())
def Q50_K1 (N:Nat):Option Y5:=
 some (true,())
def Q50_B1 (N:Nat) (kx:Int→Int→(List Int)→Int→Int→Option Y5) (low1:Int) (high1:Int) (v9:List Int) (v10:Int) (v11:Int):Option Y5:=
 bif ilt v11 v10 then
  chk (inB v11 v9.length)<|
  (Q66 N (gd v9 v11.toNat 0) low1 high1).bind fun r=>
  bif !r.1 then
   some (false,())
  else
   kx low1 high1 v9 v10 (iadd .i64 v11 1)
 else
  Q50_K1 N
def Q50_L1 (N fu_:Nat):=it_5_0 (Q50_B1 N) fu_
def Q50_L1_run (N:Nat):=run5 (Q50_B1 N) (Q50_L1 N) (fun _ _ _ _ _ _=>rfl)
def Q50 (N:Nat) (list:List Int) (low:Int) (high:Int):Option Y5:=
 Q50_L1 N N low high list (len list) 0
def Q31 (N:Nat) (c:(List Int)×(List Int)×(List Int)×(List Int)):Option Y5:=
 bif ile (len c.1) 8 then
  bif ieq (len c.2.1) (len c.1) then
   bif ieq (len c.2.2.1) (len c.1) then
    bif ieq (len c.2.2.2) (len c.1) then
     (Q50 N c.1 0 20).bind fun r=>
     bif r.1 then
      (Q50 N c.2.1 0 99).bind fun r1=>
      bif r1.1 then
       (Q50 N c.2.2.1 0 9).bind fun r2=>
       bif r2.1 then
        (Q50 N c.2.2.2 0 9).bind fun r3=>
        some (r3.1,())
       else
        some (false,())
      else
       some (false,())
     else
      some (false,())
    else
     some (false,())
   else
    some (false,())
  else
   some (false,())
 else
  some (false,())
def Q65_K1 (N:Nat) (sum1:Int):Option Y4:=
 some (sum1,())
def Q65_B1 (N:Nat) (kx:Int→(List Int)→Int→Int→Option Y4) (sum:Int) (v6:List Int) (v7:Int) (v8:Int):Option Y4:=
 bif ilt v8 v7 then
  chk (inB v8 v6.length)<|
  kx (iadd .i64 sum (gd v6 v8.toNat 0)) v6 v7 (iadd .i64 v8 1)
 else
  Q65_K1 N sum
def Q65_L1 (N fu_:Nat):=it_4_0 (Q65_B1 N) fu_
def Q65_L1_run (N:Nat):=run4 (Q65_B1 N) (Q65_L1 N) (fun _ _ _ _ _=>rfl)
def Q65 (N:Nat) (list:List Int):Option Y4:=
 Q65_L1 N N 0 list (len list) 0
def Q40 (N:Nat) (l:Y0×(List Int)×Int) (n:Int):Option Y4:=
 chk (cutB 0 n l.2.1.length)<|
 (Q65 N (cut l.2.1 0 n)).bind fun r=>
 chk (cutB 0 n l.1.1.length)<|
 (Q65 N (cut l.1.1 0 n)).bind fun r1=>
 some (isub .i64 r.1 r1.1,())
def Q32_K1 (N:Nat):Option Y5:=
 some (true,())
def Q32_B1 (N:Nat) (kx:Int→Int→Y3→Option Y5) (v34:Int) (v35:Int) (l1:Y0×(List Int)×Int):Option Y5:=
 bif ilt v35 v34 then
  (Q40 N l1 (iadd .i64 v35 1)).bind fun r3=>
  bif ilt r3.1 0 then
   some (false,())
  else
   kx v34 (iadd .i64 v35 1) l1
 else
  Q32_K1 N
def Q32_L1 (N fu_:Nat):=it_2_1 (Q32_B1 N) fu_
def Q32_L1_run (N:Nat):=run3 (Q32_B1 N) (Q32_L1 N) (fun _ _ _ _=>rfl)
def Q32 (N:Nat) (l:Y0×(List Int)×Int):Option Y5:=
 (Q31 N l.1).bind fun r=>
 bif !r.1 then
  some (false,())
 else
  bif ine (len l.2.1) (len l.1.1) then
   some (false,())
  else
   (Q50 N l.2.1 0 200).bind fun r1=>
   bif !r1.1 then
    some (false,())
   else
    (Q66 N l.2.2 0 (len l.2.1)).bind fun r2=>
    bif !r2.1 then
     some (false,())
    else
     Q32_L1 N N l.2.2 0 l

def Q59_K1 (N:Nat) (s2:ByteArray) (most2:Int) (others2:ByteArray):Option Y5:=
 bif ile (slen s2) most2 then
  (strings_ContainsAny N s2 others2).bind fun r=>
  some (!r.1,())
 else
  some (false,())
def Q59_B1 (N:Nat) (kx:ByteArray→Int→ByteArray→Int→Int→Option Y5) (s1:ByteArray) (most1:Int) (others1:ByteArray) (v9:Int) (v10:Int):Option Y5:=
 bif ilt v10 v9 then
  chk (inB v10 s1.size)<|
  bif ilt (sbyte s1 v10) 32 then
   some (false,())
  else
   chk (inB v10 s1.size)<|
   bif ilt 126 (sbyte s1 v10) then
    some (false,())
   else
    kx s1 most1 others1 v9 (iadd .i64 v10 1)
 else
  Q59_K1 N s1 most1 others1
def Q59_L1 (N fu_:Nat):=it_5_0 (Q59_B1 N) fu_
def Q59_L1_run (N:Nat):=run5 (Q59_B1 N) (Q59_L1 N) (fun _ _ _ _ _ _=>rfl)
def Q59 (N:Nat) (s:ByteArray) (most:Int) (others:ByteArray):Option Y5:=
 Q59_L1 N N s most others (slen s) 0
def Q57 (N:Nat) (s:ByteArray):Option Y5:=
 bif !(Go.Rx.seq s (⟨#[]⟩:ByteArray)) then
  (Q59 N s 160 (⟨#[35,64]⟩:ByteArray)).bind fun r=>
  some (r.1,())
 else
  some (false,())
def Q35 (N:Nat) (e:ByteArray×ByteArray):Option Y5:=
 (Q57 N e.1).bind fun r=>
 bif r.1 then
  (Q59 N e.2 200 (⟨#[35]⟩:ByteArray)).bind fun r1=>
  some (r1.1,())
 else
  some (false,())


def Q53_K1 (N:Nat) (h1:Int):Option Y4:=
 some (h1,())
def Q53_B1 (N:Nat) (kx:ByteArray→Int→Int→Int→Option Y4) (s1:ByteArray) (h:Int) (v6:Int) (v7:Int):Option Y4:=
 bif ilt v7 v6 then
  chk (inB v7 s1.size)<|
  chk (ine 999979 0)<|
  kx s1 (irem (iadd .i64 (iadd .i64 (imul .i64 41 h) (icv .i64 (sbyte s1 v7))) 1) 999979) v6 (iadd .i64 v7 1)
 else
  Q53_K1 N h
def Q53_L1 (N fu_:Nat):=it_4_0 (Q53_B1 N) fu_
def Q53_L1_run (N:Nat):=run4 (Q53_B1 N) (Q53_L1 N) (fun _ _ _ _ _=>rfl)
def Q53 (N:Nat) (s:ByteArray):Option Y4:=
 Q53_L1 N N s 7 (slen s) 0
def Q3 (N:Nat) (s:ByteArray):Option Y11:=
 bif ilt 4000 (slen s) then
  some (((⟨#[]⟩:ByteArray),false),())
 else
  (strings_Contains N s (⟨#[35]⟩:ByteArray)).bind fun r=>
  bif r.1 then
   some (((⟨#[]⟩:ByteArray),false),())
  else
   chk (sfit s (⟨#[35]⟩:ByteArray))<|
   (Q53 N s).bind fun r1=>
   (strconv_Itoa N r1.1).bind fun r2=>
   chk (sfit (scat s (⟨#[35]⟩:ByteArray)) r2.1)<|
   bif ilt 4000 (slen (scat (scat s (⟨#[35]⟩:ByteArray)) r2.1)) then
    some (((⟨#[]⟩:ByteArray),false),())
   else
    some ((scat (scat s (⟨#[35]⟩:ByteArray)) r2.1,true),())
def Q25 (N:Nat) (kx:Int) (e:ByteArray×ByteArray):Option Y11:=
 (Q66 N kx 0 59).bind fun r=>
 bif !r.1 then
  some (((⟨#[]⟩:ByteArray),false),())
 else
  (Q35 N e).bind fun r1=>
  bif !r1.1 then
   some (((⟨#[]⟩:ByteArray),false),())
  else
   (strconv_Itoa N kx).bind fun r2=>
   chk (sfit r2.1 (⟨#[32]⟩:ByteArray))<|
   chk (sfit (scat r2.1 (⟨#[32]⟩:ByteArray)) e.1)<|
   chk (sfit (scat (scat r2.1 (⟨#[32]⟩:ByteArray)) e.1) (⟨#[64]⟩:ByteArray))<|
   chk (sfit (scat (scat (scat r2.1 (⟨#[32]⟩:ByteArray)) e.1) (⟨#[64]⟩:ByteArray)) e.2)<|
   (Q3 N (scat (scat (scat (scat r2.1 (⟨#[32]⟩:ByteArray)) e.1) (⟨#[64]⟩:ByteArray)) e.2)).bind fun r3=>
   chk (sfit r3.1.1 (⟨#[10]⟩:ByteArray))<|
   some ((scat r3.1.1 (⟨#[10]⟩:ByteArray),true),())

def Q48 (N:Nat) (s:ByteArray):Option Y11:=
 (strings_Cut N s (⟨#[35]⟩:ByteArray)).bind fun r=>
 (Q3 N r.1.1).bind fun r1=>
 bif !r1.1.2 then
  some (((⟨#[]⟩:ByteArray),false),())
 else
  bif !(Go.Rx.seq r1.1.1 s) then
   some (((⟨#[]⟩:ByteArray),false),())
  else
   some ((r.1.1,true),())
def Q62_K1 (N:Nat) (records1:List Y9) (ends1:List Int):Option (((List Y9)×(List Int))×Unit):=
 some ((records1,ends1),())
def Q62_B1 (N:Nat) (kx:ByteArray→Int→(List Y9)→(List Int)→Option (((List Y9)×(List Int))×Unit)) (s1:ByteArray) (atx:Int) (records:List Y9) (ends:List Int):Option (((List Y9)×(List Int))×Unit):=
 bif ilt (len records) 60 then
  chk (cutB atx (slen s1) s1.size)<|
  (strings_Cut N (scut s1 atx (slen s1)) (⟨#[10]⟩:ByteArray)).bind fun r=>
  bif !r.1.2.2 then
   Q62_K1 N records ends
  else
   (Q48 N r.1.1).bind fun r1=>
   (strings_Cut N r1.1.1 (⟨#[32]⟩:ByteArray)).bind fun r2=>
   (strings_Cut N r2.1.2.1 (⟨#[64]⟩:ByteArray)).bind fun r3=>
   (Q25 N (len records) (r3.1.1,r3.1.2.1)).bind fun r4=>
   bif !r4.1.2 then
    Q62_K1 N records ends
   else
    chk (sfit r.1.1 (⟨#[10]⟩:ByteArray))<|
    bif !(Go.Rx.seq r4.1.1 (scat r.1.1 (⟨#[10]⟩:ByteArray))) then
     Q62_K1 N records ends
    else
     chk (fitB (records.length+1) 32)<|
     chk (fitB (ends.length+1) 8)<|
     kx s1 (iadd .i64 atx (iadd .i64 (slen r.1.1) 1)) (records++[(r3.1.1,r3.1.2.1)]) (ends++[iadd .i64 atx (iadd .i64 (slen r.1.1) 1)])
 else
  Q62_K1 N records ends
def Q62_L1 (N fu_:Nat):=it_2_2 (Q62_B1 N) fu_
theorem Q62_L1_succ (N fu_:Nat) (s1:ByteArray) (atx:Int) (records:List Y9) (ends:List Int):Q62_L1 N (fu_+1) s1 atx records ends=Q62_B1 N (fun s1 atx records ends=>Q62_L1 N fu_ s1 atx records ends) s1 atx records ends:=rfl
def Q62 (N:Nat) (s:ByteArray):Option (((List Y9)×(List Int))×Unit):=
 Q62_L1 N N s 0 [] [0]
def Q93_K1 (N:Nat):Option Y4:=
 some ((-1),())
def Q93_B1 (N:Nat) (kx:(List Int)→Int→Int→Int→Option Y4) (s1:List Int) (v1:Int) (v7:Int) (v8:Int):Option Y4:=
 bif ilt v8 v7 then
  chk (inB v8 s1.length)<|
  bif ieq v1 (gd s1 v8.toNat 0) then
   some (v8,())
  else
   kx s1 v1 v7 (iadd .i64 v8 1)
 else
  Q93_K1 N
def Q93_L1 (N fu_:Nat):=it_4_0 (Q93_B1 N) fu_
def Q93_L1_run (N:Nat):=run4 (Q93_B1 N) (Q93_L1 N) (fun _ _ _ _ _=>rfl)
def Q93 (N:Nat) (s:List Int) (v:Int):Option Y4:=
 Q93_L1 N N s v (len s) 0
def Q92 (N:Nat) (s:List Int) (v:Int):Option Y5:=
 (Q93 N s v).bind fun r=>
 some (ile 0 r.1,())
def Q34 (N:Nat) (l:ByteArray×ByteArray×Int):Option Y5:=
 bif ilt 30000 (iadd .i64 (slen l.1) (slen l.2.1)) then
  some (false,())
 else
  chk (sfit l.1 l.2.1)<|
  (Q62 N (scat l.1 l.2.1)).bind fun r=>
  chk (inB (len r.1.1) r.1.2.length)<|
  bif ieq (gd r.1.2 (len r.1.1).toNat 0) (iadd .i64 (slen l.1) (slen l.2.1)) then
   bif ieq l.2.2 (len r.1.1) then
    (Q92 N r.1.2 (slen l.1)).bind fun r1=>
    some (r1.1,())
   else
    some (false,())
  else
   some (false,())
def Q33 (N:Nat) (c:Y3×ByteArray×ByteArray×Int):Option Y5:=
 (Q32 N c.1).bind fun r=>
 bif r.1 then
  (Q34 N c.2).bind fun r1=>
  some (r1.1,())
 else
  some (false,())
def Q54 (N:Nat) (list:List Int):Option Y1:=
 chk (fitB (0+list.length) 8)<|
 some (list,())
def Q38 (N:Nat) (l:Y0×(List Int)×Int):Option (Y3×Unit):=
 (Q54 N l.1.1).bind fun r=>
 (Q54 N l.1.2.1).bind fun r1=>
 (Q54 N l.1.2.2.1).bind fun r2=>
 (Q54 N l.1.2.2.2).bind fun r3=>
 (Q54 N l.2.1).bind fun r4=>
 some (((r.1,(r1.1,(r2.1,r3.1))),(r4.1,l.2.2)),())


def Q42 (N:Nat) (s:ByteArray):Option Y7:=
 bif ilt 7 (slen s) then
  some ((0,false),())
 else
  (strconv_Atoi N s).bind fun r=>
  bif !r.1.2 then
   some ((0,false),())
  else
   (Q66 N r.1.1 (-999999) 999999).bind fun r1=>
   bif !r1.1 then
    some ((0,false),())
   else
    (strconv_Itoa N r.1.1).bind fun r2=>
    bif !(Go.Rx.seq r2.1 s) then
     some ((0,false),())
    else
     some ((r.1.1,true),())

def Q14 (N:Nat) (c:(List Int)×(List Int)×(List Int)×(List Int)) (fromx:Int) (to:Int):Option (Y0×Unit):=
 chk (cutB fromx to c.1.length)<|
 (Q54 N (cut c.1 fromx to)).bind fun r=>
 chk (cutB fromx to c.2.1.length)<|
 (Q54 N (cut c.2.1 fromx to)).bind fun r1=>
 chk (cutB fromx to c.2.2.1.length)<|
 (Q54 N (cut c.2.2.1 fromx to)).bind fun r2=>
 chk (cutB fromx to c.2.2.2.length)<|
 (Q54 N (cut c.2.2.2 fromx to)).bind fun r3=>
 some ((r.1,(r1.1,(r2.1,r3.1))),())
def Q37_K1 (N:Nat) (out1:List Int):Option Y1:=
 some (out1,())
def Q37_B1 (N:Nat) (kx:Int→(List Int)→Int→Int→(List Int)→Option Y1) (stock:Int) (v18:List Int) (v19:Int) (v20:Int) (out:List Int):Option Y1:=
 bif ilt v20 v19 then
  chk (inB v20 v18.length)<|
  chk (fitB (out.length+1) 8)<|
  kx (isub .i64 stock (imin stock (gd v18 v20.toNat 0))) v18 v19 (iadd .i64 v20 1) (out++[isub .i64 (gd v18 v20.toNat 0) (imin stock (gd v18 v20.toNat 0))])
 else
  Q37_K1 N out
def Q37_L1 (N fu_:Nat):=it_4_1 (Q37_B1 N) fu_
def Q37_L1_run (N:Nat):=run5 (Q37_B1 N) (Q37_L1 N) (fun _ _ _ _ _ _=>rfl)
def Q37 (N:Nat) (l:Y0×(List Int)×Int):Option Y1:=
 (Q40 N l l.2.2).bind fun r=>
 chk (cutB l.2.2 (len l.1.1) l.1.1.length)<|
 Q37_L1 N N r.1 (cut l.1.1 l.2.2 (len l.1.1)) (len (cut l.1.1 l.2.2 (len l.1.1))) 0 []
def Q20_K1 (N:Nat) (kx:(List Int)→Int→(List Int)→Int→Int→(List Int)→Option Y2) (periods3:List Int) (next2:Int) (need1:Int) (v152:List Int) (v162:Int) (v172:Int) (plan2:List Int):Option Y2:=
 bif ieq next2 0 then
  bif ilt 0 need1 then
   some (([],false),())
  else
   kx periods3 next2 v152 v162 (iadd .i64 v172 1) plan2
 else
  chk (inB (isub .i64 next2 1) periods3.length)<|
  chk (inB (gd periods3 (isub .i64 next2 1).toNat 0) plan2.length)<|
  chk (inB (gd periods3 (isub .i64 next2 1).toNat 0) plan2.length)<|
  kx periods3 next2 v152 v162 (iadd .i64 v172 1) (List.set plan2 (gd periods3 (isub .i64 next2 1).toNat 0).toNat (iadd .i64 (gd plan2 (gd periods3 (isub .i64 next2 1).toNat 0).toNat 0) need1))
def Q20_K2 (N:Nat) (kx:(List Int)→Int→(List Int)→Int→Int→(List Int)→Option Y2) (periods2:List Int) (next1:Int) (need:Int) (v151:List Int) (v161:Int) (v171:Int) (v33:Bool) (plan1:List Int):Option Y2:=
 bif v33 then
  Q20_K1 N kx periods2 (iadd .i64 next1 1) need v151 v161 v171 plan1
 else
  Q20_K1 N kx periods2 next1 need v151 v161 v171 plan1
def Q20_K3 (N:Nat) (plan3:List Int):Option Y2:=
 some ((plan3,true),())
def Q20_B1 (N:Nat) (kx:(List Int)→Int→(List Int)→Int→Int→(List Int)→Option Y2) (periods1:List Int) (next:Int) (v15:List Int) (v16:Int) (v17:Int) (plan:List Int):Option Y2:=
 bif ilt v17 v16 then
  chk (inB v17 v15.length)<|
  bif ilt next (len periods1) then
   chk (inB next periods1.length)<|
   Q20_K2 N kx periods1 next (gd v15 v17.toNat 0) v15 v16 v17 (ieq (gd periods1 next.toNat 0) v17) plan
  else
   Q20_K2 N kx periods1 next (gd v15 v17.toNat 0) v15 v16 v17 false plan
 else
  Q20_K3 N plan
def Q20_L1 (N fu_:Nat):=it_5_1 (Q20_B1 N) fu_
def Q20_L1_run (N:Nat):=run6 (Q20_B1 N) (Q20_L1 N) (fun _ _ _ _ _ _ _=>rfl)
def Q20 (N:Nat) (c:(List Int)×(List Int)×(List Int)×(List Int)) (periods:List Int):Option Y2:=
 chk (mkB (len c.1) 8)<|
 Q20_L1 N N periods 0 c.1 (len c.1) 0 (List.replicate (len c.1).toNat 0)
def Q19_K1 (N:Nat) (kx:Int→Int→Int→Int→(List Int)→Int→Int→Y0→Option Y15) (setups1:Int) (units1:Int) (holds1:Int) (stock1:Int) (i:Int) (amount:Int) (v131:List Int) (v141:Int) (v151:Int) (c2:(List Int)×(List Int)×(List Int)×(List Int)):Option Y15:=
 chk (inB i c2.2.2.1.length)<|
 chk (inB i c2.2.2.2.length)<|
 kx setups1 (iadd .i64 units1 (imul .i64 (gd c2.2.2.1 i.toNat 0) amount)) (iadd .i64 holds1 (imul .i64 (gd c2.2.2.2 i.toNat 0) stock1)) stock1 v131 v141 (iadd .i64 v151 1) c2
def Q19_K2 (N:Nat) (setups2:Int) (units2:Int) (holds2:Int):Option Y15:=
 some ((setups2,(units2,holds2)),())
def Q19_B1 (N:Nat) (kx:Int→Int→Int→Int→(List Int)→Int→Int→Y0→Option Y15) (setups:Int) (units:Int) (holds:Int) (stock:Int) (v13:List Int) (v14:Int) (v15:Int) (c1:(List Int)×(List Int)×(List Int)×(List Int)):Option Y15:=
 bif ilt v15 v14 then
  chk (inB v15 v13.length)<|
  chk (inB v15 c1.1.length)<|
  bif ilt 0 (gd v13 v15.toNat 0) then
   chk (inB v15 c1.2.1.length)<|
   Q19_K1 N kx (iadd .i64 setups (gd c1.2.1 v15.toNat 0)) units holds (iadd .i64 stock (isub .i64 (gd v13 v15.toNat 0) (gd c1.1 v15.toNat 0))) v15 (gd v13 v15.toNat 0) v13 v14 v15 c1
  else
   Q19_K1 N kx setups units holds (iadd .i64 stock (isub .i64 (gd v13 v15.toNat 0) (gd c1.1 v15.toNat 0))) v15 (gd v13 v15.toNat 0) v13 v14 v15 c1
 else
  Q19_K2 N setups units holds
def Q19_L1 (N fu_:Nat):=it_7_1 (Q19_B1 N) fu_
def Q19_L1_run (N:Nat):=run8 (Q19_B1 N) (Q19_L1 N) (fun _ _ _ _ _ _ _ _ _=>rfl)
def Q19 (N:Nat) (c:(List Int)×(List Int)×(List Int)×(List Int)) (plan:List Int):Option Y15:=
 Q19_L1 N N 0 0 0 0 plan (len plan) 0 c
def Q13 (N:Nat) (c:(List Int)×(List Int)×(List Int)×(List Int)) (plan:List Int):Option Y4:=
 (Q19 N c plan).bind fun r=>
 some (iadd .i64 (iadd .i64 r.1.1 r.1.2.1) r.1.2.2,())
def Q1 (N:Nat) (x:Int):Option Y5:=
 some (ine x x,())
def Q0 (N:Nat) (x:Int) (y:Int):Option Y4:=
 (Q1 N x).bind fun r=>
 (Q1 N y).bind fun r1=>
 bif r.1 then
  bif r1.1 then
   some (0,())
  else
   some ((-1),())
 else
  bif r1.1 then
   some (1,())
  else
   bif ilt x y then
    some ((-1),())
   else
    bif ilt y x then
     some (1,())
    else
     some (0,())
def Q91_K1 (N:Nat) (s12:List Int) (s22:List Int):Option Y4:=
 bif ilt (len s12) (len s22) then
  some ((-1),())
 else
  some (0,())
def Q91_B1 (N:Nat) (kx:(List Int)→(List Int)→(List Int)→Int→Int→Option Y4) (s11:List Int) (s21:List Int) (v9:List Int) (v10:Int) (v11:Int):Option Y4:=
 bif ilt v11 v10 then
  chk (inB v11 v9.length)<|
  bif ile (len s21) v11 then
   some (1,())
  else
   chk (inB v11 s21.length)<|
   (Q0 N (gd v9 v11.toNat 0) (gd s21 v11.toNat 0)).bind fun r=>
   bif ine r.1 0 then
    some (r.1,())
   else
    kx s11 s21 v9 v10 (iadd .i64 v11 1)
 else
  Q91_K1 N s11 s21
def Q91_L1 (N fu_:Nat):=it_5_0 (Q91_B1 N) fu_
def Q91_L1_run (N:Nat):=run5 (Q91_B1 N) (Q91_L1 N) (fun _ _ _ _ _ _=>rfl)
def Q91 (N:Nat) (s1:List Int) (s2:List Int):Option Y4:=
 Q91_L1 N N s1 s2 s1 (len s1) 0
def Q9_K1 (N:Nat) (kx:Int→Int→Int→Y0→(List Int)→Option Y6) (least3:Int) (cost:Int) (before:Bool) (v163:Int) (v173:Int) (c4:(List Int)×(List Int)×(List Int)×(List Int)) (best3:List Int) (periods2:List Int):Option Y6:=
 bif ilt least3 0 then
  kx cost v163 (iadd .i64 v173 1) c4 periods2
 else
  bif ilt cost least3 then
   kx cost v163 (iadd .i64 v173 1) c4 periods2
  else
   bif ieq cost least3 then
    bif before then
     kx cost v163 (iadd .i64 v173 1) c4 periods2
    else
     kx least3 v163 (iadd .i64 v173 1) c4 best3
   else
    kx least3 v163 (iadd .i64 v173 1) c4 best3
def Q9_K2 (N:Nat) (kx:Int→Int→Int→Y0→(List Int)→Option Y6) (least2:Int) (v162:Int) (v172:Int) (c3:(List Int)×(List Int)×(List Int)×(List Int)) (best2:List Int) (periods1:List Int):Option Y6:=
 (Q20 N c3 periods1).bind fun r=>
 bif !r.1.2 then
  kx least2 v162 (iadd .i64 v172 1) c3 best2
 else
  (Q13 N c3 r.1.1).bind fun r1=>
  bif ilt (len periods1) (len best2) then
   Q9_K1 N kx least2 r1.1 true v162 v172 c3 best2 periods1
  else
   bif ieq (len periods1) (len best2) then
    (Q91 N periods1 best2).bind fun r2=>
    Q9_K1 N kx least2 r1.1 (ilt r2.1 0) v162 v172 c3 best2 periods1
   else
    Q9_K1 N kx least2 r1.1 false v162 v172 c3 best2 periods1
def Q9_B1 (N:Nat) (kx:Int→Int→Int→Y0→(List Int)→Option Y6) (kx1:Int→Int→Int→Int→Int→Int→Y0→(List Int)→(List Int)→Option Y6) (least1:Int) (setx:Int) (v161:Int) (v171:Int) (v23:Int) (v24:Int) (c2:(List Int)×(List Int)×(List Int)×(List Int)) (best1:List Int) (periods:List Int):Option Y6:=
 bif ilt v24 v23 then
  chk (ile 0 v24)<|
  bif ieq (iand .i64 (ishr .i64 setx v24) 1) 1 then
   chk (fitB (periods.length+1) 8)<|
   kx1 least1 setx v161 v171 v23 (iadd .i64 v24 1) c2 best1 (periods++[v24])
  else
   kx1 least1 setx v161 v171 v23 (iadd .i64 v24 1) c2 best1 periods
 else
  Q9_K2 N kx least1 v161 v171 c2 best1 periods
def Q9_L1 (N fu_:Nat) (kx:Int→Int→Int→Y0→(List Int)→Option Y6):=it_6_3 (Q9_B1 N kx) fu_
def Q9_L1_run (N:Nat) (kx:Int→Int→Int→Y0→(List Int)→Option Y6):=run9 (Q9_B1 N kx) (fun u_=>Q9_L1 N u_ kx) (fun _ _ _ _ _ _ _ _ _ _=>rfl)
def Q9_K3 (N:Nat) (least4:Int) (best4:List Int):Option Y6:=
 some ((best4,least4),())
def Q9_B2 (N:Nat) (kx:Int→Int→Int→Y0→(List Int)→Option Y6) (least:Int) (v16:Int) (v17:Int) (c1:(List Int)×(List Int)×(List Int)×(List Int)) (best:List Int):Option Y6:=
 bif ilt v17 v16 then
  Q9_L1 N N kx least v17 v16 v17 (len c1.1) 0 c1 best []
 else
  Q9_K3 N least best
def Q9_L2 (N fu_:Nat):=it_3_2 (Q9_B2 N) fu_
def Q9_L2_run (N:Nat):=run5 (Q9_B2 N) (Q9_L2 N) (fun _ _ _ _ _ _=>rfl)
def Q9 (N:Nat) (c:(List Int)×(List Int)×(List Int)×(List Int)):Option Y6:=
 chk (ile 0 (len c.1))<|
 Q9_L2 N N (-1) (ishl .i64 1 (len c.1)) 0 c []
def Q90_K1 (N:Nat) (nonex1:Bool) (openx:Bool) (l2:Y0×(List Int)×Int) (a2:Int×Int×Int×Int×Int):Option (Bool×Y3):=
 bif ieq a2.1 1 then
  chk (fitB (l2.1.1.length+1) 8)<|
  chk (fitB (l2.1.2.1.length+1) 8)<|
  chk (fitB (l2.1.2.2.1.length+1) 8)<|
  chk (fitB (l2.1.2.2.2.length+1) 8)<|
  chk (fitB (l2.2.1.length+1) 8)<|
  some (true,((l2.1.1++[a2.2.1],(l2.1.2.1++[a2.2.2.1],(l2.1.2.2.1++[a2.2.2.2.1],l2.1.2.2.2++[a2.2.2.2.2]))),(l2.2.1++[0],l2.2.2)))
 else
  bif ieq a2.1 2 then
   bif openx then
    chk (inB a2.2.1 l2.1.1.length)<|
    some (openx,((List.set l2.1.1 a2.2.1.toNat a2.2.2.1,l2.1.2),l2.2))
   else
    some (openx,l2)
  else
   bif ieq a2.1 3 then
    bif openx then
     chk (inB a2.2.1 l2.2.1.length)<|
     some (openx,(l2.1,(List.set l2.2.1 a2.2.1.toNat a2.2.2.1,l2.2.2)))
    else
     some (openx,l2)
   else
    bif ieq a2.1 4 then
     bif nonex1 then
      some (ile (iadd .i64 l2.2.2 1) (len l2.2.1),(l2.1,(l2.2.1,iadd .i64 l2.2.2 1)))
     else
      some (false,(l2.1,(l2.2.1,iadd .i64 l2.2.2 1)))
    else
     bif ieq a2.1 5 then
      (Q14 N l2.1 l2.2.2 (len l2.2.1)).bind fun r1=>
      (Q37 N l2).bind fun r2=>
      (Q9 N (r2.1,r1.1.2)).bind fun r3=>
      (Q20 N (r2.1,r1.1.2) r3.1.1).bind fun r4=>
      chk (cutB l2.2.2 (len l2.2.1) l2.2.1.length)<|
      some (nonex1,(l2.1,(over l2.2.1 l2.2.2.toNat (List.take ((len l2.2.1).toNat - l2.2.2.toNat) r4.1.1),l2.2.2)))
     else
      bif ieq a2.1 6 then
       chk (cutB l2.2.2 (len l2.2.1) l2.2.1.length)<|
       some (nonex1,(l2.1,(over l2.2.1 l2.2.2.toNat (List.replicate ((len l2.2.1).toNat - l2.2.2.toNat) (0:Int)),l2.2.2)))
      else
       some (false,l2)
def Q90_K2 (N:Nat) (nonex:Bool) (l1:Y0×(List Int)×Int) (a1:Int×Int×Int×Int×Int):Option (Bool×Y3):=
 (Q66 N a1.2.1 l1.2.2 (isub .i64 (len l1.2.1) 1)).bind fun r=>
 bif r.1 then
  bif ieq a1.2.2.2.1 0 then
   Q90_K1 N nonex (ieq a1.2.2.2.2 0) l1 a1
  else
   Q90_K1 N nonex false l1 a1
 else
  Q90_K1 N nonex false l1 a1
def Q90 (N:Nat) (l:Y0×(List Int)×Int) (a:Int×Int×Int×Int×Int):Option (Bool×Y3):=
 bif ieq a.2.1 0 then
  bif ieq a.2.2.1 0 then
   bif ieq a.2.2.2.1 0 then
    Q90_K2 N (ieq a.2.2.2.2 0) l a
   else
    Q90_K2 N false l a
  else
   Q90_K2 N false l a
 else
  Q90_K2 N false l a
def Q2 (N:Nat) (l:Y0×(List Int)×Int) (a:Int×Int×Int×Int×Int):Option ((Y3×Bool)×Unit):=
 (Q32 N l).bind fun r=>
 bif !r.1 then
  some (((([],([],([],[]))),([],0)),false),())
 else
  (Q38 N l).bind fun r1=>
  (Q90 N r1.1 a).bind fun r2=>
  bif !r2.1 then
   some (((([],([],([],[]))),([],0)),false),())
  else
   (Q32 N r2.2).bind fun r3=>
   bif !r3.1 then
    some (((([],([],([],[]))),([],0)),false),())
   else
    some ((r2.2,true),())
def Q28 (N:Nat) (n:Int):Option Y11:=
 (Q66 N n (-999999) 999999).bind fun r=>
 bif !r.1 then
  some (((⟨#[]⟩:ByteArray),false),())
 else
  (strconv_Itoa N n).bind fun r1=>
  some ((r1.1,true),())
def Q61 (N:Nat) (n:Int) (ok:Bool):Option Y11:=
 bif !ok then
  some (((⟨#[]⟩:ByteArray),false),())
 else
  (Q28 N n).bind fun r=>
  some ((r.1.1,r.1.2),())
def Q46 (N:Nat) (l:Y0×(List Int)×Int):Option Y7:=
 (Q32 N l).bind fun r=>
 bif !r.1 then
  some ((0,false),())
 else
  (Q40 N l l.2.2).bind fun r1=>
  some ((r1.1,true),())

def Q60_K1 (N:Nat) (words1:List ByteArray):Option Y11:=
 bif ieq (len words1) 0 then
  some (((⟨#[110,111,110,101]⟩:ByteArray),true),())
 else
  (strings_Join N words1 (⟨#[32]⟩:ByteArray)).bind fun r1=>
  some ((r1.1,true),())
def Q60_B1 (N:Nat) (kx:(List Int)→Int→Int→Y14→Option Y11) (v14:List Int) (v15:Int) (v16:Int) (words:List ByteArray):Option Y11:=
 bif ilt v16 v15 then
  chk (inB v16 v14.length)<|
  (Q28 N (gd v14 v16.toNat 0)).bind fun r=>
  bif !r.1.2 then
   some (((⟨#[]⟩:ByteArray),false),())
  else
   chk (fitB (words.length+1) 16)<|
   kx v14 v15 (iadd .i64 v16 1) (words++[r.1.1])
 else
  Q60_K1 N words
def Q60_L1 (N fu_:Nat):=it_3_1 (Q60_B1 N) fu_
def Q60_L1_run (N:Nat):=run4 (Q60_B1 N) (Q60_L1 N) (fun _ _ _ _ _=>rfl)
def Q60 (N:Nat) (list:List Int) (ok:Bool):Option Y11:=
 bif !ok then
  some (((⟨#[]⟩:ByteArray),false),())
 else
  Q60_L1 N N list (len list) 0 []
def Q39_K1 (N:Nat) (out1:List Int):Option Y1:=
 some (out1,())
def Q39_B1 (N:Nat) (kx:Int→Y3→(List Int)→Option Y1) (i:Int) (l1:Y0×(List Int)×Int) (out:List Int):Option Y1:=
 bif ilt i (len l1.2.1) then
  (Q40 N l1 (iadd .i64 i 1)).bind fun r=>
  bif ilt r.1 0 then
   chk (fitB (out.length+1) 8)<|
   kx (iadd .i64 i 1) l1 (out++[i])
  else
   kx (iadd .i64 i 1) l1 out
 else
  Q39_K1 N out
def Q39_L1 (N fu_:Nat):=it_1_2 (Q39_B1 N) fu_
def Q39_L1_run (N:Nat):=run3 (Q39_B1 N) (Q39_L1 N) (fun _ _ _ _=>rfl)
def Q39 (N:Nat) (l:Y0×(List Int)×Int):Option Y1:=
 Q39_L1 N N l.2.2 l []
def Q45 (N:Nat) (l:Y0×(List Int)×Int):Option Y2:=
 (Q32 N l).bind fun r=>
 bif !r.1 then
  some (([],false),())
 else
  (Q39 N l).bind fun r1=>
  some ((r1.1,true),())
def Q49 (N:Nat) (l:Y0×(List Int)×Int) (kind:Int):Option Y11:=
 bif ieq kind 1 then
  (Q61 N (len l.2.1) true).bind fun r=>
  some ((r.1.1,r.1.2),())
 else
  bif ieq kind 4 then
   (Q46 N l).bind fun r1=>
   (Q61 N r1.1.1 r1.1.2).bind fun r2=>
   some ((r2.1.1,r2.1.2),())
  else
   bif ieq kind 5 then
    (Q60 N l.2.1 true).bind fun r3=>
    some ((r3.1.1,r3.1.2),())
   else
    (Q45 N l).bind fun r4=>
    (Q60 N r4.1.1 r4.1.2).bind fun r5=>
    some ((r5.1.1,r5.1.2),())
def Q21 (N:Nat) (c:(List Int)×(List Int)×(List Int)×(List Int)) (i:Int) (t:Int):Option Y4:=
 chk (inB i c.2.2.1.length)<|
 chk (cutB i t c.2.2.2.length)<|
 (Q65 N (cut c.2.2.2 i t)).bind fun r=>
 some (iadd .i64 (gd c.2.2.1 i.toNat 0) r.1,())
def Q22_K1 (N:Nat) (sum1:Int):Option Y4:=
 some (sum1,())
def Q22_B1 (N:Nat) (kx:Int→Int→Int→Int→Y0→Option Y4) (i1:Int) (j1:Int) (sum:Int) (t:Int) (c1:(List Int)×(List Int)×(List Int)×(List Int)):Option Y4:=
 bif ilt t j1 then
  chk (inB t c1.1.length)<|
  (Q21 N c1 i1 t).bind fun r1=>
  kx i1 j1 (iadd .i64 sum (imul .i64 (gd c1.1 t.toNat 0) r1.1)) (iadd .i64 t 1) c1
 else
  Q22_K1 N sum
def Q22_L1 (N fu_:Nat):=it_4_1 (Q22_B1 N) fu_
def Q22_L1_run (N:Nat):=run5 (Q22_B1 N) (Q22_L1 N) (fun _ _ _ _ _ _=>rfl)
def Q22 (N:Nat) (c:(List Int)×(List Int)×(List Int)×(List Int)) (i:Int) (j:Int):Option Y4:=
 chk (cutB i j c.1.length)<|
 (Q65 N (cut c.1 i j)).bind fun r=>
 bif ieq r.1 0 then
  some (0,())
 else
  chk (inB i c.2.1.length)<|
  Q22_L1 N N i j (gd c.2.1 i.toNat 0) i c
def Q17 (N:Nat) (c:(List Int)×(List Int)×(List Int)×(List Int)) (rule:Int) (i:Int) (j:Int):Option Y5:=
 (Q22 N c i j).bind fun r=>
 (Q22 N c i (iadd .i64 j 1)).bind fun r1=>
 bif ieq rule 1 then
  some (ile (imul .i64 r1.1 (isub .i64 j i)) (imul .i64 r.1 (isub .i64 (iadd .i64 j 1) i)),())
 else
  bif ieq rule 2 then
   chk (cutB i j c.1.length)<|
   (Q65 N (cut c.1 i j)).bind fun r2=>
   chk (cutB i (iadd .i64 j 1) c.1.length)<|
   (Q65 N (cut c.1 i (iadd .i64 j 1))).bind fun r3=>
   some (ile (imul .i64 r1.1 r2.1) (imul .i64 r.1 r3.1),())
  else
   chk (inB i c.2.1.length)<|
   chk (inB i c.2.2.1.length)<|
   chk (cutB i (iadd .i64 j 1) c.1.length)<|
   (Q65 N (cut c.1 i (iadd .i64 j 1))).bind fun r4=>
   chk (inB i c.2.1.length)<|
   some (ile (isub .i64 (isub .i64 r1.1 (gd c.2.1 i.toNat 0)) (imul .i64 (gd c.2.2.1 i.toNat 0) r4.1)) (gd c.2.1 i.toNat 0),())
def Q11_K1 (N:Nat) (kx:Int→Int→Int→Y0→(List Int)→Option Y1) (rule3:Int) (n2:Int) (j1:Int) (c3:(List Int)×(List Int)×(List Int)×(List Int)) (out2:List Int):Option Y1:=
 kx rule3 n2 j1 c3 out2
def Q11_B1 (N:Nat) (kx:Int→Int→Int→Y0→(List Int)→Option Y1) (kx1:Int→Int→Int→Int→Y0→(List Int)→Option Y1) (rule2:Int) (n1:Int) (i1:Int) (j:Int) (c2:(List Int)×(List Int)×(List Int)×(List Int)) (out1:List Int):Option Y1:=
 bif ilt j n1 then
  (Q17 N c2 rule2 i1 j).bind fun r=>
  bif r.1 then
   kx1 rule2 n1 i1 (iadd .i64 j 1) c2 out1
  else
   Q11_K1 N kx rule2 n1 j c2 out1
 else
  Q11_K1 N kx rule2 n1 j c2 out1
def Q11_L1 (N fu_:Nat) (kx:Int→Int→Int→Y0→(List Int)→Option Y1):=it_4_2 (Q11_B1 N kx) fu_
def Q11_L1_run (N:Nat) (kx:Int→Int→Int→Y0→(List Int)→Option Y1):=run6 (Q11_B1 N kx) (fun u_=>Q11_L1 N u_ kx) (fun _ _ _ _ _ _ _=>rfl)
def Q11_K2 (N:Nat) (out3:List Int):Option Y1:=
 some (out3,())
def Q11_B2 (N:Nat) (kx:Int→Int→Int→Y0→(List Int)→Option Y1) (rule1:Int) (n:Int) (i:Int) (c1:(List Int)×(List Int)×(List Int)×(List Int)) (out:List Int):Option Y1:=
 bif ilt i n then
  chk (inB i c1.1.length)<|
  bif ieq (gd c1.1 i.toNat 0) 0 then
   kx rule1 n (iadd .i64 i 1) c1 out
  else
   chk (fitB (out.length+1) 8)<|
   Q11_L1 N N kx rule1 n i (iadd .i64 i 1) c1 (out++[i])
 else
  Q11_K2 N out
def Q11_L2 (N fu_:Nat):=it_3_2 (Q11_B2 N) fu_
theorem Q11_L2_succ (N fu_:Nat) (rule1:Int) (n:Int) (i:Int) (c1:(List Int)×(List Int)×(List Int)×(List Int)) (out:List Int):Q11_L2 N (fu_+1) rule1 n i c1 out=Q11_B2 N (fun rule1 n i c1 out=>Q11_L2 N fu_ rule1 n i c1 out) rule1 n i c1 out:=rfl
def Q11 (N:Nat) (c:(List Int)×(List Int)×(List Int)×(List Int)) (rule:Int):Option Y1:=
 Q11_L2 N N rule (len c.1) 0 c []
def Q44 (N:Nat) (c:(List Int)×(List Int)×(List Int)×(List Int)) (rule:Int):Option Y2:=
 (Q31 N c).bind fun r=>
 bif !r.1 then
  some (([],false),())
 else
  (Q66 N rule 1 3).bind fun r1=>
  bif !r1.1 then
   some (([],false),())
  else
   (Q11 N c rule).bind fun r2=>
   some ((r2.1,true),())
def Q8_K1 (N:Nat) (kx:Int→Int→Y0→(List Int)→Option Y1) (n2:Int) (i2:Int) (c3:(List Int)×(List Int)×(List Int)×(List Int)) (out2:List Int):Option Y1:=
 kx n2 (isub .i64 i2 1) c3 out2
def Q8_B1 (N:Nat) (kx:Int→Int→Y0→(List Int)→Option Y1) (kx1:Int→Int→Int→Y0→(List Int)→Option Y1) (n1:Int) (i1:Int) (j:Int) (c2:(List Int)×(List Int)×(List Int)×(List Int)) (out1:List Int):Option Y1:=
 bif ilt j n1 then
  chk (inB i1 out1.length)<|
  (Q22 N c2 i1 j).bind fun r1=>
  chk (inB j out1.length)<|
  chk (inB i1 out1.length)<|
  kx1 n1 i1 (iadd .i64 j 1) c2 (List.set out1 i1.toNat (imin (gd out1 i1.toNat 0) (iadd .i64 r1.1 (gd out1 j.toNat 0))))
 else
  Q8_K1 N kx n1 i1 c2 out1
def Q8_L1 (N fu_:Nat) (kx:Int→Int→Y0→(List Int)→Option Y1):=it_3_2 (Q8_B1 N kx) fu_
def Q8_L1_run (N:Nat) (kx:Int→Int→Y0→(List Int)→Option Y1):=run5 (Q8_B1 N kx) (fun u_=>Q8_L1 N u_ kx) (fun _ _ _ _ _ _=>rfl)
def Q8_K2 (N:Nat) (out3:List Int):Option Y1:=
 some (out3,())
def Q8_B2 (N:Nat) (kx:Int→Int→Y0→(List Int)→Option Y1) (n:Int) (i:Int) (c1:(List Int)×(List Int)×(List Int)×(List Int)) (out:List Int):Option Y1:=
 bif ile 0 i then
  (Q22 N c1 i n).bind fun r=>
  chk (inB i out.length)<|
  Q8_L1 N N kx n i (iadd .i64 i 1) c1 (List.set out i.toNat r.1)
 else
  Q8_K2 N out
def Q8_L2 (N fu_:Nat):=it_2_2 (Q8_B2 N) fu_
def Q8_L2_run (N:Nat):=run4 (Q8_B2 N) (Q8_L2 N) (fun _ _ _ _ _=>rfl)
def Q8 (N:Nat) (c:(List Int)×(List Int)×(List Int)×(List Int)):Option Y1:=
 chk (mkB (iadd .i64 (len c.1) 1) 8)<|
 Q8_L2 N N (len c.1) (isub .i64 (len c.1) 1) c (List.replicate (iadd .i64 (len c.1) 1).toNat 0)
def Q43 (N:Nat) (c:(List Int)×(List Int)×(List Int)×(List Int)) (rule:Int):Option Y7:=
 (Q31 N c).bind fun r=>
 bif !r.1 then
  some ((0,false),())
 else
  (Q66 N rule 1 3).bind fun r1=>
  bif !r1.1 then
   some ((0,false),())
  else
   (Q11 N c rule).bind fun r2=>
   (Q20 N c r2.1).bind fun r3=>
   (Q13 N c r3.1.1).bind fun r4=>
   (Q8 N c).bind fun r5=>
   chk (inB 0 r5.1.length)<|
   some ((isub .i64 r4.1 (gd r5.1 0 0),true),())
def Q58 (N:Nat) (life:Int):Option Y5:=
 (Q66 N life 1 8).bind fun r=>
 some (r.1,())
def Q64 (N:Nat) (a:List Int) (b:List Int):Option Y4:=
 bif ine (len a) (len b) then
  some (isub .i64 (len a) (len b),())
 else
  (Q91 N a b).bind fun r=>
  some (r.1,())

def Q63_K1 (N:Nat) (kx:Int→Int→Int→Y12→Option Y16) (n3:Int) (v92:Int) (v102:Int) (out2:List (List Int)) (list1:List Int):Option Y16:=
 chk (fitB (out2.length+1) 24)<|
 kx n3 v92 (iadd .i64 v102 1) (out2++[list1])
def Q63_B1 (N:Nat) (kx:Int→Int→Int→Y12→Option Y16) (kx1:Int→Int→Int→Int→Int→Int→Y12→(List Int)→Option Y16) (n2:Int) (code:Int) (v91:Int) (v101:Int) (v14:Int) (v15:Int) (out1:List (List Int)) (list:List Int):Option Y16:=
 bif ilt v15 v14 then
  chk (ile 0 v15)<|
  bif ieq (iand .i64 (ishr .i64 code v15) 1) 1 then
   chk (fitB (list.length+1) 8)<|
   kx1 n2 code v91 v101 v14 (iadd .i64 v15 1) out1 (list++[v15])
  else
   kx1 n2 code v91 v101 v14 (iadd .i64 v15 1) out1 list
 else
  Q63_K1 N kx n2 v91 v101 out1 list
def Q63_L1 (N fu_:Nat) (kx:Int→Int→Int→Y12→Option Y16):=it_6_2 (Q63_B1 N kx) fu_
def Q63_L1_run (N:Nat) (kx:Int→Int→Int→Y12→Option Y16):=run8 (Q63_B1 N kx) (fun u_=>Q63_L1 N u_ kx) (fun _ _ _ _ _ _ _ _ _=>rfl)
def Q63_K2 (N:Nat) (out3:List (List Int)):Option Y16:=
 (slices_SortFunc_int_int__impl_sets_1 N out3).bind fun r=>
 some (r.2,())
def Q63_B2 (N:Nat) (kx:Int→Int→Int→Y12→Option Y16) (n1:Int) (v9:Int) (v10:Int) (out:List (List Int)):Option Y16:=
 bif ilt v10 v9 then
  Q63_L1 N N kx n1 v10 v9 v10 n1 0 out []
 else
  Q63_K2 N out
def Q63_L2 (N fu_:Nat):=it_3_1 (Q63_B2 N) fu_
def Q63_L2_run (N:Nat):=run4 (Q63_B2 N) (Q63_L2 N) (fun _ _ _ _ _=>rfl)
def Q63 (N:Nat) (n:Int):Option Y16:=
 chk (ile 0 n)<|
 Q63_L2 N N n (ishl .i64 1 n) 0 []
def Q16_K1 (N:Nat) (kx1:Int→(List Int)→Int→(List Int)→Int→Int→Y0→Option Y7) (life5:Int) (periods5:List Int) (sum4:Int) (need1:Int) (least1:Int) (v312:List Int) (v322:Int) (v332:Int) (c5:(List Int)×(List Int)×(List Int)×(List Int)):Option Y7:=
 bif ilt 0 need1 then
  bif ieq least1 1099511627776 then
   some ((0,false),())
  else
   kx1 life5 periods5 (iadd .i64 sum4 (imul .i64 need1 least1)) v312 v322 (iadd .i64 v332 1) c5
 else
  kx1 life5 periods5 sum4 v312 v322 (iadd .i64 v332 1) c5
def Q16_B1 (N:Nat) (kx1:Int→(List Int)→Int→(List Int)→Int→Int→Y0→Option Y7) (kx2:Int→(List Int)→Int→Int→Int→Int→(List Int)→Int→Int→(List Int)→Int→Int→Y0→Option Y7) (life4:Int) (periods4:List Int) (sum3:Int) (t:Int) (need:Int) (least:Int) (v311:List Int) (v321:Int) (v331:Int) (v38:List Int) (v39:Int) (v40:Int) (c4:(List Int)×(List Int)×(List Int)×(List Int)):Option Y7:=
 bif ilt v40 v39 then
  chk (inB v40 v38.length)<|
  (Q66 N (gd v38 v40.toNat 0) (iadd .i64 (isub .i64 t life4) 1) t).bind fun r=>
  bif r.1 then
   (Q21 N c4 (gd v38 v40.toNat 0) t).bind fun r1=>
   kx2 life4 periods4 sum3 t need (imin least r1.1) v311 v321 v331 v38 v39 (iadd .i64 v40 1) c4
  else
   kx2 life4 periods4 sum3 t need least v311 v321 v331 v38 v39 (iadd .i64 v40 1) c4
 else
  Q16_K1 N kx1 life4 periods4 sum3 need least v311 v321 v331 c4
def Q16_L1 (N fu_:Nat) (kx1:Int→(List Int)→Int→(List Int)→Int→Int→Y0→Option Y7):=it_12_1 (Q16_B1 N kx1) fu_
def Q16_L1_run (N:Nat) (kx1:Int→(List Int)→Int→(List Int)→Int→Int→Y0→Option Y7):=Zp1 (Q16_B1 N kx1) (fun u_=>Q16_L1 N u_ kx1) (fun _ _ _ _ _ _ _ _ _ _ _ _ _ _=>rfl)
def Q16_K2 (N:Nat) (sum5:Int):Option Y7:=
 some ((sum5,true),())
def Q16_B2 (N:Nat) (kx1:Int→(List Int)→Int→(List Int)→Int→Int→Y0→Option Y7) (life3:Int) (periods3:List Int) (sum2:Int) (v31:List Int) (v32:Int) (v33:Int) (c3:(List Int)×(List Int)×(List Int)×(List Int)):Option Y7:=
 bif ilt v33 v32 then
  chk (inB v33 v31.length)<|
  Q16_L1 N N kx1 life3 periods3 sum2 v33 (gd v31 v33.toNat 0) 1099511627776 v31 v32 v33 periods3 (len periods3) 0 c3
 else
  Q16_K2 N sum2
def Q16_L2 (N fu_:Nat):=it_6_1 (Q16_B2 N) fu_
def Q16_L2_run (N:Nat):=run7 (Q16_B2 N) (Q16_L2 N) (fun _ _ _ _ _ _ _ _=>rfl)
def Q16_K3 (N:Nat) (life2:Int) (periods2:List Int) (sum1:Int) (c2:(List Int)×(List Int)×(List Int)×(List Int)):Option Y7:=
 Q16_L2 N N life2 periods2 sum1 c2.1 (len c2.1) 0 c2
def Q16_B3 (N:Nat) (kx:Int→(List Int)→Int→(List Int)→Int→Int→Y0→Option Y7) (life1:Int) (periods1:List Int) (sum:Int) (v16:List Int) (v17:Int) (v18:Int) (c1:(List Int)×(List Int)×(List Int)×(List Int)):Option Y7:=
 bif ilt v18 v17 then
  chk (inB v18 v16.length)<|
  chk (inB (gd v16 v18.toNat 0) c1.2.1.length)<|
  kx life1 periods1 (iadd .i64 sum (gd c1.2.1 (gd v16 v18.toNat 0).toNat 0)) v16 v17 (iadd .i64 v18 1) c1
 else
  Q16_K3 N life1 periods1 sum c1
def Q16_L3 (N fu_:Nat):=it_6_1 (Q16_B3 N) fu_
def Q16_L3_run (N:Nat):=run7 (Q16_B3 N) (Q16_L3 N) (fun _ _ _ _ _ _ _ _=>rfl)
def Q16 (N:Nat) (c:(List Int)×(List Int)×(List Int)×(List Int)) (life:Int) (periods:List Int):Option Y7:=
 Q16_L3 N N life periods 0 periods (len periods) 0 c
def Q10_K1 (N:Nat) (kx:Int→(List Int)→Int→Int→Int→Y0→Y12→Option Y6) (life2:Int) (best1:List Int) (least1:Int) (v171:Int) (v181:Int) (c2:(List Int)×(List Int)×(List Int)×(List Int)) (v161:List (List Int)):Option Y6:=
 kx life2 best1 least1 v171 (iadd .i64 v181 1) c2 v161
def Q10_K2 (N:Nat) (best2:List Int) (least2:Int):Option Y6:=
 some ((best2,least2),())
def Q10_B1 (N:Nat) (kx:Int→(List Int)→Int→Int→Int→Y0→Y12→Option Y6) (life1:Int) (best:List Int) (least:Int) (v17:Int) (v18:Int) (c1:(List Int)×(List Int)×(List Int)×(List Int)) (v16:List (List Int)):Option Y6:=
 bif ilt v18 v17 then
  chk (inB v18 v16.length)<|
  (Q16 N c1 life1 (gd v16 v18.toNat [])).bind fun r1=>
  bif r1.1.2 then
   bif ilt r1.1.1 least then
    Q10_K1 N kx life1 (gd v16 v18.toNat []) r1.1.1 v17 v18 c1 v16
   else
    Q10_K1 N kx life1 best least v17 v18 c1 v16
  else
   Q10_K1 N kx life1 best least v17 v18 c1 v16
 else
  Q10_K2 N best least
def Q10_L1 (N fu_:Nat):=it_5_2 (Q10_B1 N) fu_
def Q10_L1_run (N:Nat):=run7 (Q10_B1 N) (Q10_L1 N) (fun _ _ _ _ _ _ _ _=>rfl)
def Q10 (N:Nat) (c:(List Int)×(List Int)×(List Int)×(List Int)) (life:Int):Option Y6:=
 (Q63 N (len c.1)).bind fun r=>
 Q10_L1 N N life [] 1099511627776 (len r.1) 0 c r.1
def Q6 (N:Nat) (c:(List Int)×(List Int)×(List Int)×(List Int)) (life:Int):Option (((List Int)×Int×Bool)×Unit):=
 (Q31 N c).bind fun r=>
 bif !r.1 then
  some (([],(0,false)),())
 else
  (Q58 N life).bind fun r1=>
  bif !r1.1 then
   some (([],(0,false)),())
  else
   (Q10 N c life).bind fun r2=>
   some ((r2.1.1,(r2.1.2,true)),())
def Q36_K1 (N:Nat) (kx:Int→Int→Int→Y3→Option Y4) (to2:Int) (sum1:Int) (i1:Int) (l2:Y0×(List Int)×Int):Option Y4:=
 chk (inB i1 l2.1.2.2.1.length)<|
 chk (inB i1 l2.2.1.length)<|
 chk (inB i1 l2.1.2.2.2.length)<|
 (Q40 N l2 (iadd .i64 i1 1)).bind fun r=>
 kx to2 (iadd .i64 sum1 (iadd .i64 (imul .i64 (gd l2.1.2.2.1 i1.toNat 0) (gd l2.2.1 i1.toNat 0)) (imul .i64 (gd l2.1.2.2.2 i1.toNat 0) r.1))) (iadd .i64 i1 1) l2
def Q36_K2 (N:Nat) (sum2:Int):Option Y4:=
 some (sum2,())
def Q36_B1 (N:Nat) (kx:Int→Int→Int→Y3→Option Y4) (to1:Int) (sum:Int) (i:Int) (l1:Y0×(List Int)×Int):Option Y4:=
 bif ilt i to1 then
  chk (inB i l1.2.1.length)<|
  bif ilt 0 (gd l1.2.1 i.toNat 0) then
   chk (inB i l1.1.2.1.length)<|
   Q36_K1 N kx to1 (iadd .i64 sum (gd l1.1.2.1 i.toNat 0)) i l1
  else
   Q36_K1 N kx to1 sum i l1
 else
  Q36_K2 N sum
def Q36_L1 (N fu_:Nat):=it_3_1 (Q36_B1 N) fu_
def Q36_L1_run (N:Nat):=run4 (Q36_B1 N) (Q36_L1 N) (fun _ _ _ _ _=>rfl)
def Q36 (N:Nat) (l:Y0×(List Int)×Int) (fromx:Int) (to:Int):Option Y4:=
 Q36_L1 N N to 0 fromx l
def Q24 (N:Nat) (l:Y0×(List Int)×Int):Option Y7:=
 (Q32 N l).bind fun r=>
 bif !r.1 then
  some ((0,false),())
 else
  (Q36 N l 0 l.2.2).bind fun r1=>
  some ((r1.1,true),())
def Q23 (N:Nat) (l:Y0×(List Int)×Int):Option Y7:=
 (Q32 N l).bind fun r=>
 bif !r.1 then
  some ((0,false),())
 else
  (Q39 N l).bind fun r1=>
  bif ilt 0 (len r1.1) then
   some ((0,false),())
  else
   (Q36 N l l.2.2 (len l.2.1)).bind fun r2=>
   some ((r2.1,true),())
def Q41 (N:Nat) (l:Y0×(List Int)×Int):Option Y2:=
 (Q32 N l).bind fun r=>
 bif !r.1 then
  some (([],false),())
 else
  (Q37 N l).bind fun r1=>
  some ((r1.1,true),())
def Q55_K1 (N:Nat) (between2:ByteArray) (words1:List ByteArray):Option Y8:=
 (strings_Join N words1 between2).bind fun r1=>
 some (r1.1,())
def Q55_B1 (N:Nat) (kx:ByteArray→(List Int)→Int→Int→Y14→Option Y8) (between1:ByteArray) (v9:List Int) (v10:Int) (v11:Int) (words:List ByteArray):Option Y8:=
 bif ilt v11 v10 then
  chk (inB v11 v9.length)<|
  (strconv_Itoa N (gd v9 v11.toNat 0)).bind fun r=>
  chk (fitB (words.length+1) 16)<|
  kx between1 v9 v10 (iadd .i64 v11 1) (words++[r.1])
 else
  Q55_K1 N between1 words
def Q55_L1 (N fu_:Nat):=it_4_1 (Q55_B1 N) fu_
def Q55_L1_run (N:Nat):=run5 (Q55_B1 N) (Q55_L1 N) (fun _ _ _ _ _ _=>rfl)
def Q55 (N:Nat) (list:List Int) (between:ByteArray):Option Y8:=
 Q55_L1 N N between list (len list) 0 []
def Q52_K1 (N:Nat) (words1:List ByteArray):Option Y8:=
 bif ieq (len words1) 0 then
  some ((⟨#[110,111,110,101]⟩:ByteArray),())
 else
  (strings_Join N words1 (⟨#[32]⟩:ByteArray)).bind fun r1=>
  some (r1.1,())
def Q52_B1 (N:Nat) (kx:(List Int)→Int→Int→Y0→Y14→Option Y8) (v8:List Int) (v9:Int) (v10:Int) (c1:(List Int)×(List Int)×(List Int)×(List Int)) (words:List ByteArray):Option Y8:=
 bif ilt v10 v9 then
  chk (inB v10 v8.length)<|
  chk (inB v10 c1.2.1.length)<|
  chk (inB v10 c1.2.2.1.length)<|
  chk (inB v10 c1.2.2.2.length)<|
  (Q55 N [gd v8 v10.toNat 0,gd c1.2.1 v10.toNat 0,gd c1.2.2.1 v10.toNat 0,gd c1.2.2.2 v10.toNat 0] (⟨#[47]⟩:ByteArray)).bind fun r=>
  chk (fitB (words.length+1) 16)<|
  kx v8 v9 (iadd .i64 v10 1) c1 (words++[r.1])
 else
  Q52_K1 N words
def Q52_L1 (N fu_:Nat):=it_3_2 (Q52_B1 N) fu_
def Q52_L1_run (N:Nat):=run5 (Q52_B1 N) (Q52_L1 N) (fun _ _ _ _ _ _=>rfl)
def Q52 (N:Nat) (c:(List Int)×(List Int)×(List Int)×(List Int)):Option Y8:=
 Q52_L1 N N c.1 (len c.1) 0 c []
def Q7 (N:Nat) (c:(List Int)×(List Int)×(List Int)×(List Int)):Option Y11:=
 (Q31 N c).bind fun r=>
 bif !r.1 then
  some (((⟨#[]⟩:ByteArray),false),())
 else
  (Q52 N c).bind fun r1=>
  some ((r1.1,true),())
def Q5 (N:Nat) (c:(List Int)×(List Int)×(List Int)×(List Int)):Option Y7:=
 (Q31 N c).bind fun r=>
 bif !r.1 then
  some ((0,false),())
 else
  (Q9 N c).bind fun r1=>
  some ((r1.1.2,true),())
def Q15_K1 (N:Nat) (kx:Int→Y0→(List Int)→Option Y1) (j2:Int) (least1:Int) (c3:(List Int)×(List Int)×(List Int)×(List Int)) (out2:List Int):Option Y1:=
 chk (fitB (out2.length+1) 8)<|
 kx (iadd .i64 j2 1) c3 (out2++[least1])
def Q15_B1 (N:Nat) (kx:Int→Y0→(List Int)→Option Y1) (kx1:Int→Int→Int→Y0→(List Int)→Option Y1) (j1:Int) (least:Int) (i:Int) (c2:(List Int)×(List Int)×(List Int)×(List Int)) (out1:List Int):Option Y1:=
 bif ilt i j1 then
  chk (inB i out1.length)<|
  (Q22 N c2 i j1).bind fun r1=>
  kx1 j1 (imin least (iadd .i64 (gd out1 i.toNat 0) r1.1)) (iadd .i64 i 1) c2 out1
 else
  Q15_K1 N kx j1 least c2 out1
def Q15_L1 (N fu_:Nat) (kx:Int→Y0→(List Int)→Option Y1):=it_3_2 (Q15_B1 N kx) fu_
def Q15_L1_run (N:Nat) (kx:Int→Y0→(List Int)→Option Y1):=run5 (Q15_B1 N kx) (fun u_=>Q15_L1 N u_ kx) (fun _ _ _ _ _ _=>rfl)
def Q15_K2 (N:Nat) (out3:List Int):Option Y1:=
 some (out3,())
def Q15_B2 (N:Nat) (kx:Int→Y0→(List Int)→Option Y1) (j:Int) (c1:(List Int)×(List Int)×(List Int)×(List Int)) (out:List Int):Option Y1:=
 bif ile j (len c1.1) then
  chk (inB 0 out.length)<|
  (Q22 N c1 0 j).bind fun r=>
  Q15_L1 N N kx j (iadd .i64 (gd out 0 0) r.1) 1 c1 out
 else
  Q15_K2 N out
def Q15_L2 (N fu_:Nat):=it_1_2 (Q15_B2 N) fu_
theorem Q15_L2_succ (N fu_:Nat) (j:Int) (c1:(List Int)×(List Int)×(List Int)×(List Int)) (out:List Int):Q15_L2 N (fu_+1) j c1 out=Q15_B2 N (fun j c1 out=>Q15_L2 N fu_ j c1 out) j c1 out:=rfl
def Q15_L2_run (N:Nat):=run3 (Q15_B2 N) (Q15_L2 N) (fun _ _ _ _=>rfl)
def Q15 (N:Nat) (c:(List Int)×(List Int)×(List Int)×(List Int)):Option Y1:=
 Q15_L2 N N 1 c [0]
def Q29 (N:Nat) (c:(List Int)×(List Int)×(List Int)×(List Int)):Option Y2:=
 (Q31 N c).bind fun r=>
 bif !r.1 then
  some (([],false),())
 else
  (Q15 N c).bind fun r1=>
  some ((r1.1,true),())
def Q47_K1 (N:Nat) (out1:List Int):Option Y2:=
 some ((out1,true),())
def Q47_B1 (N:Nat) (kx:Int→Int→(List Int)→(List Int)→(List Int)→Option Y2) (v18:Int) (v19:Int) (out:List Int) (backward:List Int) (v17:List Int):Option Y2:=
 bif ilt v19 v18 then
  chk (inB v19 v17.length)<|
  chk (inB v19 backward.length)<|
  chk (inB 0 backward.length)<|
  bif ieq (iadd .i64 (gd v17 v19.toNat 0) (gd backward v19.toNat 0)) (gd backward 0 0) then
   chk (fitB (out.length+1) 8)<|
   kx v18 (iadd .i64 v19 1) (out++[v19]) backward v17
  else
   kx v18 (iadd .i64 v19 1) out backward v17
 else
  Q47_K1 N out
def Q47_L1 (N fu_:Nat):=it_2_3 (Q47_B1 N) fu_
def Q47_L1_run (N:Nat):=run5 (Q47_B1 N) (Q47_L1 N) (fun _ _ _ _ _ _=>rfl)
def Q47 (N:Nat) (c:(List Int)×(List Int)×(List Int)×(List Int)):Option Y2:=
 (Q31 N c).bind fun r=>
 bif !r.1 then
  some (([],false),())
 else
  (Q15 N c).bind fun r1=>
  (Q8 N c).bind fun r2=>
  Q47_L1 N N (len r1.1) 0 [] r2.1 r1.1
def Q18_K1 (N:Nat) (kx:Int→Y0→(List Int)→(List Int)→Option Y1) (j2:Int) (i1:Int) (c3:(List Int)×(List Int)×(List Int)×(List Int)) (out2:List Int) (forward2:List Int):Option Y1:=
 chk (fitB (out2.length+1) 8)<|
 kx (iadd .i64 j2 1) c3 (out2++[i1]) forward2
def Q18_B1 (N:Nat) (kx:Int→Y0→(List Int)→(List Int)→Option Y1) (kx1:Int→Int→Y0→(List Int)→(List Int)→Option Y1) (j1:Int) (i:Int) (c2:(List Int)×(List Int)×(List Int)×(List Int)) (out1:List Int) (forward1:List Int):Option Y1:=
 chk (inB i forward1.length)<|
 (Q22 N c2 i j1).bind fun r1=>
 chk (inB j1 forward1.length)<|
 bif ine (iadd .i64 (gd forward1 i.toNat 0) r1.1) (gd forward1 j1.toNat 0) then
  kx1 j1 (isub .i64 i 1) c2 out1 forward1
 else
  Q18_K1 N kx j1 i c2 out1 forward1
def Q18_L1 (N fu_:Nat) (kx:Int→Y0→(List Int)→(List Int)→Option Y1):=it_2_3 (Q18_B1 N kx) fu_
def Q18_L1_run (N:Nat) (kx:Int→Y0→(List Int)→(List Int)→Option Y1):=run5 (Q18_B1 N kx) (fun u_=>Q18_L1 N u_ kx) (fun _ _ _ _ _ _=>rfl)
def Q18_K2 (N:Nat) (out3:List Int):Option Y1:=
 some (out3,())
def Q18_B2 (N:Nat) (kx:Int→Y0→(List Int)→(List Int)→Option Y1) (j:Int) (c1:(List Int)×(List Int)×(List Int)×(List Int)) (out:List Int) (forward:List Int):Option Y1:=
 bif ilt j (len forward) then
  Q18_L1 N N kx j (isub .i64 j 1) c1 out forward
 else
  Q18_K2 N out
def Q18_L2 (N fu_:Nat):=it_1_3 (Q18_B2 N) fu_
def Q18_L2_run (N:Nat):=run4 (Q18_B2 N) (Q18_L2 N) (fun _ _ _ _ _=>rfl)
def Q18 (N:Nat) (c:(List Int)×(List Int)×(List Int)×(List Int)):Option Y1:=
 (Q15 N c).bind fun r=>
 Q18_L2 N N 1 c [] r.1
def Q30_K1 (N:Nat) (out1:List Int):Option Y2:=
 some ((out1,true),())
def Q30_B1 (N:Nat) (kx:Int→Int→Y0→(List Int)→(List Int)→Option Y2) (v13:Int) (v14:Int) (c1:(List Int)×(List Int)×(List Int)×(List Int)) (out:List Int) (v12:List Int):Option Y2:=
 bif ilt v14 v13 then
  chk (inB v14 v12.length)<|
  bif ieq (gd v12 v14.toNat 0) v14 then
   chk (inB v14 c1.1.length)<|
   bif ilt 0 (gd c1.1 v14.toNat 0) then
    chk (fitB (out.length+1) 8)<|
    kx v13 (iadd .i64 v14 1) c1 (out++[iadd .i64 v14 1]) v12
   else
    kx v13 (iadd .i64 v14 1) c1 out v12
  else
   kx v13 (iadd .i64 v14 1) c1 out v12
 else
  Q30_K1 N out
def Q30_L1 (N fu_:Nat):=it_2_3 (Q30_B1 N) fu_
def Q30_L1_run (N:Nat):=run5 (Q30_B1 N) (Q30_L1 N) (fun _ _ _ _ _ _=>rfl)
def Q30 (N:Nat) (c:(List Int)×(List Int)×(List Int)×(List Int)):Option Y2:=
 (Q31 N c).bind fun r=>
 bif !r.1 then
  some (([],false),())
 else
  (Q18 N c).bind fun r1=>
  Q30_L1 N N (len r1.1) 0 c [] r1.1
def Q12_K1 (N:Nat) (sum1:Int):Option Y4:=
 some (sum1,())
def Q12_B1 (N:Nat) (kx:Int→(List Int)→Int→Int→Y0→Option Y4) (i1:Int) (prices1:List Int) (sum:Int) (t:Int) (c1:(List Int)×(List Int)×(List Int)×(List Int)):Option Y4:=
 bif ilt t (len prices1) then
  chk (inB t prices1.length)<|
  chk (inB t c1.1.length)<|
  (Q21 N c1 i1 t).bind fun r=>
  kx i1 prices1 (iadd .i64 sum (imax 0 (isub .i64 (gd prices1 t.toNat 0) (imul .i64 (gd c1.1 t.toNat 0) r.1)))) (iadd .i64 t 1) c1
 else
  Q12_K1 N sum
def Q12_L1 (N fu_:Nat):=it_4_1 (Q12_B1 N) fu_
def Q12_L1_run (N:Nat):=run5 (Q12_B1 N) (Q12_L1 N) (fun _ _ _ _ _ _=>rfl)
def Q12 (N:Nat) (c:(List Int)×(List Int)×(List Int)×(List Int)) (i:Int) (prices:List Int):Option Y4:=
 Q12_L1 N N i prices 0 i c
def Q27_K1 (N:Nat) (kx:(List Int)→Int→Int→Y0→(List Int)→Option Y2) (price1:Int) (v152:List Int) (v162:Int) (v172:Int) (c3:(List Int)×(List Int)×(List Int)×(List Int)) (out2:List Int):Option Y2:=
 chk (fitB (out2.length+1) 8)<|
 kx v152 v162 (iadd .i64 v172 1) c3 (out2++[price1])
def Q27_B1 (N:Nat) (kx:(List Int)→Int→Int→Y0→(List Int)→Option Y2) (kx1:Int→Int→Int→(List Int)→Int→Int→Int→Int→Y0→(List Int)→Option Y2) (t:Int) (need:Int) (price:Int) (v151:List Int) (v161:Int) (v171:Int) (v25:Int) (v26:Int) (c2:(List Int)×(List Int)×(List Int)×(List Int)) (out1:List Int):Option Y2:=
 bif ilt v26 v25 then
  (Q21 N c2 v26 t).bind fun r1=>
  chk (inB v26 c2.2.1.length)<|
  (Q12 N c2 v26 out1).bind fun r2=>
  bif ieq v26 0 then
   kx1 t need (isub .i64 (iadd .i64 (imul .i64 need r1.1) (gd c2.2.1 v26.toNat 0)) r2.1) v151 v161 v171 v25 (iadd .i64 v26 1) c2 out1
  else
   bif ilt (isub .i64 (iadd .i64 (imul .i64 need r1.1) (gd c2.2.1 v26.toNat 0)) r2.1) price then
    kx1 t need (isub .i64 (iadd .i64 (imul .i64 need r1.1) (gd c2.2.1 v26.toNat 0)) r2.1) v151 v161 v171 v25 (iadd .i64 v26 1) c2 out1
   else
    kx1 t need price v151 v161 v171 v25 (iadd .i64 v26 1) c2 out1
 else
  Q27_K1 N kx price v151 v161 v171 c2 out1
def Q27_L1 (N fu_:Nat) (kx:(List Int)→Int→Int→Y0→(List Int)→Option Y2):=it_8_2 (Q27_B1 N kx) fu_
def Q27_L1_run (N:Nat) (kx:(List Int)→Int→Int→Y0→(List Int)→Option Y2):=Zp0 (Q27_B1 N kx) (fun u_=>Q27_L1 N u_ kx) (fun _ _ _ _ _ _ _ _ _ _ _=>rfl)
def Q27_K2 (N:Nat) (out3:List Int):Option Y2:=
 some ((out3,true),())
def Q27_B2 (N:Nat) (kx:(List Int)→Int→Int→Y0→(List Int)→Option Y2) (v15:List Int) (v16:Int) (v17:Int) (c1:(List Int)×(List Int)×(List Int)×(List Int)) (out:List Int):Option Y2:=
 bif ilt v17 v16 then
  chk (inB v17 v15.length)<|
  bif ilt 0 (gd v15 v17.toNat 0) then
   Q27_L1 N N kx v17 (gd v15 v17.toNat 0) 0 v15 v16 v17 (iadd .i64 v17 1) 0 c1 out
  else
   chk (fitB (out.length+1) 8)<|
   kx v15 v16 (iadd .i64 v17 1) c1 (out++[0])
 else
  Q27_K2 N out
def Q27_L2 (N fu_:Nat):=it_3_2 (Q27_B2 N) fu_
def Q27_L2_run (N:Nat):=run5 (Q27_B2 N) (Q27_L2 N) (fun _ _ _ _ _ _=>rfl)
def Q27 (N:Nat) (c:(List Int)×(List Int)×(List Int)×(List Int)):Option Y2:=
 (Q31 N c).bind fun r=>
 bif !r.1 then
  some (([],false),())
 else
  Q27_L2 N N c.1 (len c.1) 0 c []
def Q51_K1 (N:Nat) (word1:ByteArray) (numbers1:List Int) (l1:Y0×(List Int)×Int):Option Y11:=
 bif ilt 0 (len numbers1) then
  some (((⟨#[]⟩:ByteArray),false),())
 else
  bif Go.Rx.seq word1 (⟨#[110,111,119]⟩:ByteArray) then
   (Q61 N l1.2.2 true).bind fun r6=>
   some ((r6.1.1,r6.1.2),())
  else
   bif Go.Rx.seq word1 (⟨#[115,116,111,99,107]⟩:ByteArray) then
    (Q46 N l1).bind fun r7=>
    (Q61 N r7.1.1 r7.1.2).bind fun r8=>
    some ((r8.1.1,r8.1.2),())
   else
    bif Go.Rx.seq word1 (⟨#[99,111,115,116]⟩:ByteArray) then
     (Q24 N l1).bind fun r9=>
     (Q61 N r9.1.1 r9.1.2).bind fun r10=>
     some ((r10.1.1,r10.1.2),())
    else
     bif Go.Rx.seq word1 (⟨#[97,104,101,97,100]⟩:ByteArray) then
      (Q23 N l1).bind fun r11=>
      (Q61 N r11.1.1 r11.1.2).bind fun r12=>
      some ((r12.1.1,r12.1.2),())
     else
      bif Go.Rx.seq word1 (⟨#[115,104,111,114,116]⟩:ByteArray) then
       (Q45 N l1).bind fun r13=>
       (Q60 N r13.1.1 r13.1.2).bind fun r14=>
       some ((r14.1.1,r14.1.2),())
      else
       bif Go.Rx.seq word1 (⟨#[108,101,102,116]⟩:ByteArray) then
        (Q41 N l1).bind fun r15=>
        (Q60 N r15.1.1 r15.1.2).bind fun r16=>
        some ((r16.1.1,r16.1.2),())
       else
        bif Go.Rx.seq word1 (⟨#[112,108,97,110]⟩:ByteArray) then
         (Q60 N l1.2.1 true).bind fun r17=>
         some ((r17.1.1,r17.1.2),())
        else
         bif Go.Rx.seq word1 (⟨#[99,97,115,101]⟩:ByteArray) then
          (Q7 N l1.1).bind fun r18=>
          some ((r18.1.1,r18.1.2),())
         else
          bif Go.Rx.seq word1 (⟨#[98,101,115,116]⟩:ByteArray) then
           (Q5 N l1.1).bind fun r19=>
           (Q61 N r19.1.1 r19.1.2).bind fun r20=>
           some ((r20.1.1,r20.1.2),())
          else
           bif Go.Rx.seq word1 (⟨#[116,97,98,108,101]⟩:ByteArray) then
            (Q29 N l1.1).bind fun r21=>
            (Q60 N r21.1.1 r21.1.2).bind fun r22=>
            some ((r22.1.1,r22.1.2),())
           else
            bif Go.Rx.seq word1 (⟨#[116,117,114,110,115]⟩:ByteArray) then
             (Q47 N l1.1).bind fun r23=>
             (Q60 N r23.1.1 r23.1.2).bind fun r24=>
             some ((r24.1.1,r24.1.2),())
            else
             bif Go.Rx.seq word1 (⟨#[104,111,114,105,122,111,110,115]⟩:ByteArray) then
              (Q30 N l1.1).bind fun r25=>
              (Q60 N r25.1.1 r25.1.2).bind fun r26=>
              some ((r26.1.1,r26.1.2),())
             else
              bif Go.Rx.seq word1 (⟨#[112,114,105,99,101,115]⟩:ByteArray) then
               (Q27 N l1.1).bind fun r27=>
               (Q60 N r27.1.1 r27.1.2).bind fun r28=>
               some ((r28.1.1,r28.1.2),())
              else
               some (((⟨#[]⟩:ByteArray),false),())
def Q51 (N:Nat) (l:Y0×(List Int)×Int) (word:ByteArray) (numbers:List Int):Option Y11:=
 bif ieq (len numbers) 1 then
  bif Go.Rx.seq word (⟨#[114,117,108,101]⟩:ByteArray) then
   chk (inB 0 numbers.length)<|
   (Q44 N l.1 (gd numbers 0 0)).bind fun r=>
   (Q60 N r.1.1 r.1.2).bind fun r1=>
   some ((r1.1.1,r1.1.2),())
  else
   bif Go.Rx.seq word (⟨#[103,97,112]⟩:ByteArray) then
    chk (inB 0 numbers.length)<|
    (Q43 N l.1 (gd numbers 0 0)).bind fun r2=>
    (Q61 N r2.1.1 r2.1.2).bind fun r3=>
    some ((r3.1.1,r3.1.2),())
   else
    bif Go.Rx.seq word (⟨#[102,114,101,115,104]⟩:ByteArray) then
     chk (inB 0 numbers.length)<|
     (Q6 N l.1 (gd numbers 0 0)).bind fun r4=>
     (Q61 N r4.1.2.1 r4.1.2.2).bind fun r5=>
     some ((r5.1.1,r5.1.2),())
    else
     Q51_K1 N word numbers l
 else
  Q51_K1 N word numbers l
def Q56_K1 (N:Nat) (words1:List ByteArray) (l2:Y0×(List Int)×Int) (v41:Y0×(List Int)×Int) (numbers1:List Int):Option Y13:=
 chk (inB 0 words1.length)<|
 (impl_actOf N (gd words1 0 (⟨#[]⟩:ByteArray)) numbers1).bind fun r2=>
 bif r2.1.2 then
  (Q2 N l2 r2.1.1).bind fun r3=>
  bif r3.1.2 then
   (Q49 N r3.1.1 r2.1.1.1).bind fun r4=>
   bif r4.1.2 then
    some ((r3.1.1,r4.1.1),())
   else
    some ((l2,(⟨#[63]⟩:ByteArray)),())
  else
   some ((l2,(⟨#[63]⟩:ByteArray)),())
 else
  chk (inB 0 words1.length)<|
  (Q51 N l2 (gd words1 0 (⟨#[]⟩:ByteArray)) numbers1).bind fun r5=>
  bif !r5.1.2 then
   some ((l2,(⟨#[63]⟩:ByteArray)),())
  else
   some ((l2,r5.1.1),())
def Q56_B1 (N:Nat) (kx:Y14→Y14→Int→Int→Y3→Y3→(List Int)→Option Y13) (words:List ByteArray) (v24:List ByteArray) (v25:Int) (v26:Int) (l1:Y0×(List Int)×Int) (v4:Y0×(List Int)×Int) (numbers:List Int):Option Y13:=
 bif ilt v26 v25 then
  chk (inB v26 v24.length)<|
  (Q42 N (gd v24 v26.toNat (⟨#[]⟩:ByteArray))).bind fun r1=>
  bif !r1.1.2 then
   some ((l1,(⟨#[63]⟩:ByteArray)),())
  else
   chk (fitB (numbers.length+1) 8)<|
   kx words v24 v25 (iadd .i64 v26 1) l1 v4 (numbers++[r1.1.1])
 else
  Q56_K1 N words l1 v4 numbers
def Q56_L1 (N fu_:Nat):=it_4_3 (Q56_B1 N) fu_
def Q56_L1_run (N:Nat):=run7 (Q56_B1 N) (Q56_L1 N) (fun _ _ _ _ _ _ _ _=>rfl)
def Q56 (N:Nat) (l:Y0×(List Int)×Int) (line:ByteArray):Option Y13:=
 (strings_Split N line (⟨#[32]⟩:ByteArray)).bind fun r=>
 chk (cutB 1 (len r.1) r.1.length)<|
 Q56_L1 N N r.1 (List.take ((len r.1).toNat - 1) (List.drop 1 r.1)) (((len r.1).toNat - 1:Nat):Int) 0 l (([],([],([],[]))),([],0)) []
def Q4 (N:Nat) (l:ByteArray×ByteArray×Int) (e:ByteArray×ByteArray):Option (((ByteArray×ByteArray×Int)×Int)×Unit):=
 (Q34 N l).bind fun r=>
 bif !r.1 then
  some ((l,1),())
 else
  (Q35 N e).bind fun r1=>
  bif !r1.1 then
   some ((l,1),())
  else
   (Q25 N l.2.2 e).bind fun r2=>
   bif !r2.1.2 then
    some ((l,2),())
   else
    chk (sfit l.2.1 r2.1.1)<|
    some (((l.1,(scat l.2.1 r2.1.1,iadd .i64 l.2.2 1)),0),())
def Q26 (N:Nat) (c:Y3×ByteArray×ByteArray×Int) (line:ByteArray):Option ((Y17×ByteArray)×Unit):=
 (Q38 N c.1).bind fun r=>
 (Q33 N c).bind fun r1=>
 bif !r1.1 then
  some (((r.1,c.2),(⟨#[110,111]⟩:ByteArray)),())
 else
  (Q57 N line).bind fun r2=>
  bif !r2.1 then
   some (((r.1,c.2),(⟨#[98,97,100]⟩:ByteArray)),())
  else
   bif ieq c.2.2.2 60 then
    some (((r.1,c.2),(⟨#[102,117,108,108]⟩:ByteArray)),())
   else
    (Q56 N r.1 line).bind fun r3=>
    (Q4 N c.2 (line,r3.1.2)).bind fun r4=>
    some (((r3.1.1,r4.1.1),r3.1.2),())
def Q69_K1 (N:Nat):Option Y5:=
 some (true,())
def Q69_B1 (N:Nat) (kx:(List Int)→(List Int)→Int→Option Y5) (a1:List Int) (b1:List Int) (i:Int):Option Y5:=
 bif ilt i (len a1) then
  chk (inB i a1.length)<|
  chk (inB i b1.length)<|
  bif ine (gd a1 i.toNat 0) (gd b1 i.toNat 0) then
   some (false,())
  else
   kx a1 b1 (iadd .i64 i 1)
 else
  Q69_K1 N
def Q69_L1 (N fu_:Nat):=it_3_0 (Q69_B1 N) fu_
def Q69_L1_run (N:Nat):=run3 (Q69_B1 N) (Q69_L1 N) (fun _ _ _ _=>rfl)
def Q69 (N:Nat) (a:List Int) (b:List Int):Option Y5:=
 bif ine (len a) (len b) then
  some (false,())
 else
  Q69_L1 N N a b 0
def Q67 (N:Nat) (a:(List Int)×(List Int)×(List Int)×(List Int)) (b:(List Int)×(List Int)×(List Int)×(List Int)):Option Y5:=
 (Q69 N a.1 b.1).bind fun r=>
 bif !r.1 then
  some (false,())
 else
  (Q69 N a.2.1 b.2.1).bind fun r1=>
  bif !r1.1 then
   some (false,())
  else
   (Q69 N a.2.2.1 b.2.2.1).bind fun r2=>
   bif !r2.1 then
    some (false,())
   else
    (Q69 N a.2.2.2 b.2.2.2).bind fun r3=>
    bif !r3.1 then
     some (false,())
    else
     some (true,())
def Q70 (N:Nat) (a:Y0×(List Int)×Int) (b:Y0×(List Int)×Int):Option Y5:=
 (Q67 N a.1 b.1).bind fun r=>
 bif !r.1 then
  some (false,())
 else
  (Q69 N a.2.1 b.2.1).bind fun r1=>
  bif !r1.1 then
   some (false,())
  else
   bif ine a.2.2 b.2.2 then
    some (false,())
   else
    some (true,())
def Q71 (N:Nat) (a:ByteArray×ByteArray×Int) (b:ByteArray×ByteArray×Int):Option Y5:=
 bif !(Go.Rx.seq a.1 b.1) then
  some (false,())
 else
  bif !(Go.Rx.seq a.2.1 b.2.1) then
   some (false,())
  else
   bif ine a.2.2 b.2.2 then
    some (false,())
   else
    some (true,())
def Q68 (N:Nat) (a:Y3×ByteArray×ByteArray×Int) (b:Y3×ByteArray×ByteArray×Int):Option Y5:=
 (Q70 N a.1 b.1).bind fun r=>
 bif !r.1 then
  some (false,())
 else
  (Q71 N a.2 b.2).bind fun r1=>
  bif !r1.1 then
   some (false,())
  else
   some (true,())
def Q78_K1 (N:Nat) (kx3:Int) (a2:List Int):Option (Int×(List Int)):=
 some (kx3,a2)
def Q78_B1 (N:Nat) (kx2:Int→Int→(List Int)→Option (Int×(List Int))) (kx1:Int) (i:Int) (a1:List Int):Option (Int×(List Int)):=
 bif ilt i (len a1) then
  chk (inB i a1.length)<|
  kx2 (iadd .i64 kx1 1) (iadd .i64 i 1) (List.set a1 i.toNat kx1)
 else
  Q78_K1 N kx1 a1
def Q78_L1 (N fu_:Nat):=it_2_1 (Q78_B1 N) fu_
def Q78_L1_run (N:Nat):=run3 (Q78_B1 N) (Q78_L1 N) (fun _ _ _ _=>rfl)
def Q78 (N:Nat) (a:List Int) (kx:Int):Option (Int×(List Int)):=
 Q78_L1 N N kx 0 a
def Q76 (N:Nat) (a:(List Int)×(List Int)×(List Int)×(List Int)) (kx:Int):Option (Int×Y0):=
 (Q78 N a.1 kx).bind fun r=>
 (Q78 N a.2.1 r.1).bind fun r1=>
 (Q78 N a.2.2.1 r1.1).bind fun r2=>
 (Q78 N a.2.2.2 r2.1).bind fun r3=>
 some (r3.1,(r.2,(r1.2,(r2.2,r3.2))))
def Q79 (N:Nat) (a:Y0×(List Int)×Int) (kx:Int):Option (Int×Y3):=
 (Q76 N a.1 kx).bind fun r=>
 (Q78 N a.2.1 r.1).bind fun r1=>
 some (r1.1,(r.2,(r1.2,a.2.2)))
def Q77 (N:Nat) (a:Y3×ByteArray×ByteArray×Int) (kx:Int):Option (Int×Y17):=
 (Q79 N a.1 kx).bind fun r=>
 some (r.1,(r.2,a.2))
def Q74_K1 (N:Nat) (kx3:Int):Option Y4:=
 some (kx3,())
def Q74_B1 (N:Nat) (kx2:(List Int)→Int→Int→Option Y4) (a1:List Int) (kx1:Int) (i:Int):Option Y4:=
 bif ilt i (len a1) then
  chk (inB i a1.length)<|
  bif ine (gd a1 i.toNat 0) kx1 then
   some ((-1),())
  else
   kx2 a1 (iadd .i64 kx1 1) (iadd .i64 i 1)
 else
  Q74_K1 N kx1
def Q74_L1 (N fu_:Nat):=it_3_0 (Q74_B1 N) fu_
def Q74_L1_run (N:Nat):=run3 (Q74_B1 N) (Q74_L1 N) (fun _ _ _ _=>rfl)
def Q74 (N:Nat) (a:List Int) (kx:Int):Option Y4:=
 Q74_L1 N N a kx 0
def Q72 (N:Nat) (a:(List Int)×(List Int)×(List Int)×(List Int)) (kx:Int):Option Y4:=
 (Q74 N a.1 kx).bind fun r=>
 bif ilt r.1 0 then
  some ((-1),())
 else
  (Q74 N a.2.1 r.1).bind fun r1=>
  bif ilt r1.1 0 then
   some ((-1),())
  else
   (Q74 N a.2.2.1 r1.1).bind fun r2=>
   bif ilt r2.1 0 then
    some ((-1),())
   else
    (Q74 N a.2.2.2 r2.1).bind fun r3=>
    bif ilt r3.1 0 then
     some ((-1),())
    else
     some (r3.1,())
def Q75 (N:Nat) (a:Y0×(List Int)×Int) (kx:Int):Option Y4:=
 (Q72 N a.1 kx).bind fun r=>
 bif ilt r.1 0 then
  some ((-1),())
 else
  (Q74 N a.2.1 r.1).bind fun r1=>
  bif ilt r1.1 0 then
   some ((-1),())
  else
   some (r1.1,())
def Q73 (N:Nat) (a:Y3×ByteArray×ByteArray×Int) (kx:Int):Option Y4:=
 (Q75 N a.1 kx).bind fun r=>
 bif ilt r.1 0 then
  some ((-1),())
 else
  some (r.1,())
def laws_FnExactExecuteCommand (N:Nat) (aC:Y3×ByteArray×ByteArray×Int) (aLine:ByteArray):Option Y5:=
 bif ilt 1048576 (slen aLine) then
  some (true,())
 else
  (Q81 N aC 1048576).bind fun r=>
  bif ilt r.1 0 then
   some (true,())
  else
   (Q86 N aC).bind fun r1=>
   (Q98 N r1.1 aLine).bind fun r2=>
   (Q86 N aC).bind fun r3=>
   (Q26 N r3.1 aLine).bind fun r4=>
   (Q68 N r4.1.1 r2.1.1).bind fun r5=>
   bif !r5.1 then
    some (false,())
   else
    bif !(Go.Rx.seq r4.1.2 r2.1.2) then
     some (false,())
    else
     (Q86 N aC).bind fun r6=>
     (Q68 N r3.1 r6.1).bind fun r7=>
     bif !r7.1 then
      some (false,())
     else
      (Q77 N r3.1 1).bind fun r8=>
      bif ilt r8.1 0 then
       some (false,())
      else
       (Q68 N r4.1.1 r2.1.1).bind fun r9=>
       bif !r9.1 then
        some (false,())
       else
        bif !(Go.Rx.seq r4.1.2 r2.1.2) then
         some (false,())
        else
         (Q77 N r4.1.1 1).bind fun r10=>
         (Q73 N r10.2 1).bind fun r11=>
         bif ilt r11.1 0 then
          some (false,())
         else
          bif ine r11.1 r10.1 then
           some (false,())
          else
           (Q86 N aC).bind fun r12=>
           (Q26 N r12.1 aLine).bind fun r13=>
           (Q68 N r13.1.1 r2.1.1).bind fun r14=>
           bif !r14.1 then
            some (false,())
           else
            bif !(Go.Rx.seq r13.1.2 r2.1.2) then
             some (false,())
            else
             (Q73 N r10.2 1).bind fun r15=>
             bif ilt r15.1 0 then
              some (false,())
             else
              bif ine r15.1 r10.1 then
               some (false,())
              else
               some (true,())
end Px
end Go.Rx
