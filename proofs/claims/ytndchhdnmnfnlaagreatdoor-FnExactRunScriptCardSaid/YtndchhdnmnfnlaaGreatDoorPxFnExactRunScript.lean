/- This text defines the plain functions that the Go functions behind FnExactRunScript compute; no condition. -/
import Derived.Test.YtndchhdnmnfnlaaGreatDoorRxe
set_option linter.unusedVariables false
set_option linter.unusedSimpArgs false
set_option linter.defProp false
namespace Go.Rx
namespace Px
abbrev Y0:=(List Int)×(List Int)×(List Int)×(List Int)
abbrev Y1:=(List Int)×Unit
abbrev Y2:=((List Int)×Bool)×Unit
abbrev Y3:=Y0×(List Int)×Int
abbrev Y4:=Int×Unit
abbrev Y5:=Bool×Unit
abbrev Y6:=((List Int)×Int)×Unit
abbrev Y7:=(Int×Bool)×Unit
abbrev Y8:=ByteArray×Unit
abbrev Y9:=List ByteArray
abbrev Y10:=ByteArray×ByteArray
abbrev Y11:=((List Int)×(List Int))×Unit
abbrev Y12:=(ByteArray×Bool)×Unit
abbrev Y13:=List (List Int)
abbrev Y14:=Y3×ByteArray×ByteArray×Int
abbrev Y15:=(Y3×ByteArray)×Unit
abbrev Y16:=(Y9×Bool)×Unit
abbrev Y17:=(Int×Int×Int)×Unit
abbrev Y18:=Y13×Unit
abbrev Y19:=((List Y10)×(List Int))×Unit
def Q83 (N:Nat) (a:List Int) (left:Int):Option Y4:=
 bif ilt (isub .i64 left (len a)) 0 then
  some ((-1),())
 else
  some (isub .i64 left (len a),())
def Q81 (N:Nat) (a:(List Int)×(List Int)×(List Int)×(List Int)) (left:Int):Option Y4:=
 (Q83 N a.1 left).bind fun r=>
 bif ilt r.1 0 then
  some ((-1),())
 else
  (Q83 N a.2.1 r.1).bind fun r1=>
  bif ilt r1.1 0 then
   some ((-1),())
  else
   (Q83 N a.2.2.1 r1.1).bind fun r2=>
   bif ilt r2.1 0 then
    some ((-1),())
   else
    (Q83 N a.2.2.2 r2.1).bind fun r3=>
    bif ilt r3.1 0 then
     some ((-1),())
    else
     some (r3.1,())
def Q84 (N:Nat) (a:Y0×(List Int)×Int) (left:Int):Option Y4:=
 (Q81 N a.1 left).bind fun r=>
 bif ilt r.1 0 then
  some ((-1),())
 else
  (Q83 N a.2.1 r.1).bind fun r1=>
  bif ilt r1.1 0 then
   some ((-1),())
  else
   some (r1.1,())
def Q85 (N:Nat) (a:ByteArray×ByteArray×Int) (left:Int):Option Y4:=
 bif ilt (isub .i64 left (slen a.1)) 0 then
  some ((-1),())
 else
  bif ilt (isub .i64 (isub .i64 left (slen a.1)) (slen a.2.1)) 0 then
   some ((-1),())
  else
   some (isub .i64 (isub .i64 left (slen a.1)) (slen a.2.1),())
def Q82 (N:Nat) (a:Y3×ByteArray×ByteArray×Int) (left:Int):Option Y4:=
 (Q84 N a.1 left).bind fun r=>
 bif ilt r.1 0 then
  some ((-1),())
 else
  (Q85 N a.2 r.1).bind fun r1=>
  bif ilt r1.1 0 then
   some ((-1),())
  else
   some (r1.1,())
def Q88_K1 (N:Nat) (out1:List Int):Option Y1:=
 some (out1,())
def Q88_B1 (N:Nat) (kx:(List Int)→Int→(List Int)→Option Y1) (a1:List Int) (i:Int) (out:List Int):Option Y1:=
 bif ilt i (len a1) then
  chk (inB i a1.length)<|
  chk (inB i out.length)<|
  kx a1 (iadd .i64 i 1) (List.set out i.toNat (gd a1 i.toNat 0))
 else
  Q88_K1 N out
def Q88_L1 (N fu_:Nat):=it_2_1 (Q88_B1 N) fu_
def Q88_L1_run (N:Nat):=run3 (Q88_B1 N) (Q88_L1 N) (fun _ _ _ _=>rfl)
def Q88 (N:Nat) (a:List Int):Option Y1:=
 chk (mkB (len a) 8)<|
 Q88_L1 N N a 0 (List.replicate (len a).toNat 0)
def Q86 (N:Nat) (a:(List Int)×(List Int)×(List Int)×(List Int)):Option (Y0×Unit):=
 (Q88 N a.1).bind fun r=>
 (Q88 N a.2.1).bind fun r1=>
 (Q88 N a.2.2.1).bind fun r2=>
 (Q88 N a.2.2.2).bind fun r3=>
 some ((r.1,(r1.1,(r2.1,r3.1))),())
def Q89 (N:Nat) (a:Y0×(List Int)×Int):Option (Y3×Unit):=
 (Q86 N a.1).bind fun r=>
 (Q88 N a.2.1).bind fun r1=>
 some ((r.1,(r1.1,a.2.2)),())
def Q90 (N:Nat) (a:ByteArray×ByteArray×Int):Option ((ByteArray×ByteArray×Int)×Unit):=
 some ((a.1,(a.2.1,a.2.2)),())
def Q87 (N:Nat) (a:Y3×ByteArray×ByteArray×Int):Option (Y14×Unit):=
 (Q89 N a.1).bind fun r=>
 (Q90 N a.2).bind fun r1=>
 some ((r.1,r1.1),())
def Q70_K1 (N:Nat):Option Y5:=
 some (true,())
def Q70_B1 (N:Nat) (kx:(List Int)→(List Int)→Int→Option Y5) (a1:List Int) (b1:List Int) (i:Int):Option Y5:=
 bif ilt i (len a1) then
  chk (inB i a1.length)<|
  chk (inB i b1.length)<|
  bif ine (gd a1 i.toNat 0) (gd b1 i.toNat 0) then
   some (false,())
  else
   kx a1 b1 (iadd .i64 i 1)
 else
  Q70_K1 N
def Q70_L1 (N fu_:Nat):=it_3_0 (Q70_B1 N) fu_
def Q70_L1_run (N:Nat):=run3 (Q70_B1 N) (Q70_L1 N) (fun _ _ _ _=>rfl)
def Q70 (N:Nat) (a:List Int) (b:List Int):Option Y5:=
 bif ine (len a) (len b) then
  some (false,())
 else
  Q70_L1 N N a b 0
def Q68 (N:Nat) (a:(List Int)×(List Int)×(List Int)×(List Int)) (b:(List Int)×(List Int)×(List Int)×(List Int)):Option Y5:=
 (Q70 N a.1 b.1).bind fun r=>
 bif !r.1 then
  some (false,())
 else
  (Q70 N a.2.1 b.2.1).bind fun r1=>
  bif !r1.1 then
   some (false,())
  else
   (Q70 N a.2.2.1 b.2.2.1).bind fun r2=>
   bif !r2.1 then
    some (false,())
   else
    (Q70 N a.2.2.2 b.2.2.2).bind fun r3=>
    bif !r3.1 then
     some (false,())
    else
     some (true,())
def Q71 (N:Nat) (a:Y0×(List Int)×Int) (b:Y0×(List Int)×Int):Option Y5:=
 (Q68 N a.1 b.1).bind fun r=>
 bif !r.1 then
  some (false,())
 else
  (Q70 N a.2.1 b.2.1).bind fun r1=>
  bif !r1.1 then
   some (false,())
  else
   bif ine a.2.2 b.2.2 then
    some (false,())
   else
    some (true,())
def Q72 (N:Nat) (a:ByteArray×ByteArray×Int) (b:ByteArray×ByteArray×Int):Option Y5:=
 bif !(Go.Rx.seq a.1 b.1) then
  some (false,())
 else
  bif !(Go.Rx.seq a.2.1 b.2.1) then
   some (false,())
  else
   bif ine a.2.2 b.2.2 then
    some (false,())
   else
    some (true,())
def Q69 (N:Nat) (a:Y3×ByteArray×ByteArray×Int) (b:Y3×ByteArray×ByteArray×Int):Option Y5:=
 (Q71 N a.1 b.1).bind fun r=>
 bif !r.1 then
  some (false,())
 else
  (Q72 N a.2 b.2).bind fun r1=>
  bif !r1.1 then
   some (false,())
  else
   some (true,())
def Q77_K1 (N:Nat) (kx3:Int) (a2:List Int):Option (Int×(List Int)):=
 some (kx3,a2)
def Q77_B1 (N:Nat) (kx2:Int→Int→(List Int)→Option (Int×(List Int))) (kx1:Int) (i:Int) (a1:List Int):Option (Int×(List Int)):=
 bif ilt i (len a1) then
  chk (inB i a1.length)<|
  kx2 (iadd .i64 kx1 1) (iadd .i64 i 1) (List.set a1 i.toNat kx1)
 else
  Q77_K1 N kx1 a1
def Q77_L1 (N fu_:Nat):=it_2_1 (Q77_B1 N) fu_
def Q77_L1_run (N:Nat):=run3 (Q77_B1 N) (Q77_L1 N) (fun _ _ _ _=>rfl)
def Q77 (N:Nat) (a:List Int) (kx:Int):Option (Int×(List Int)):=
 Q77_L1 N N kx 0 a
def Q75 (N:Nat) (a:(List Int)×(List Int)×(List Int)×(List Int)) (kx:Int):Option (Int×Y0):=
 (Q77 N a.1 kx).bind fun r=>
 (Q77 N a.2.1 r.1).bind fun r1=>
 (Q77 N a.2.2.1 r1.1).bind fun r2=>
 (Q77 N a.2.2.2 r2.1).bind fun r3=>
 some (r3.1,(r.2,(r1.2,(r2.2,r3.2))))
def Q78 (N:Nat) (a:Y0×(List Int)×Int) (kx:Int):Option (Int×Y3):=
 (Q75 N a.1 kx).bind fun r=>
 (Q77 N a.2.1 r.1).bind fun r1=>
 some (r1.1,(r.2,(r1.2,a.2.2)))
def Q76 (N:Nat) (a:Y3×ByteArray×ByteArray×Int) (kx:Int):Option (Int×Y14):=
 (Q78 N a.1 kx).bind fun r=>
 some (r.1,(r.2,a.2))
def Q143_K1 (N:Nat) (s2:ByteArray) (fromx1:Int) (out1:List ByteArray):Option (Y9×Unit):=
 chk (cutB fromx1 (slen s2) s2.size)<|
 chk (fitB (out1.length+1) 16)<|
 some (out1++[scut s2 fromx1 (slen s2)],())
def Q143_B1 (N:Nat) (kx:ByteArray→Int→Int→Int→Y9→Option (Y9×Unit)) (s1:ByteArray) (b1:Int) (fromx:Int) (i:Int) (out:List ByteArray):Option (Y9×Unit):=
 bif ilt i (slen s1) then
  chk (inB i s1.size)<|
  bif ieq (sbyte s1 i) b1 then
   chk (cutB fromx i s1.size)<|
   chk (fitB (out.length+1) 16)<|
   kx s1 b1 (iadd .i64 i 1) (iadd .i64 i 1) (out++[scut s1 fromx i])
  else
   kx s1 b1 fromx (iadd .i64 i 1) out
 else
  Q143_K1 N s1 fromx out
def Q143_L1 (N fu_:Nat):=it_4_1 (Q143_B1 N) fu_
theorem Q143_L1_succ (N fu_:Nat) (s1:ByteArray) (b1:Int) (fromx:Int) (i:Int) (out:List ByteArray):Q143_L1 N (fu_+1) s1 b1 fromx i out=Q143_B1 N (fun s1 b1 fromx i out=>Q143_L1 N fu_ s1 b1 fromx i out) s1 b1 fromx i out:=rfl
def Q143 (N:Nat) (s:ByteArray) (b:Int):Option (Y9×Unit):=
 Q143_L1 N N s b 0 0 []
def Q136 (N:Nat) (x:Int) (a:Int) (b:Int):Option Y5:=
 bif ile a x then
  some (ile x b,())
 else
  some (false,())
def Q109_K1 (N:Nat) (s2:ByteArray) (most2:Int):Option Y5:=
 some (ile (slen s2) most2,())
def Q109_B1 (N:Nat) (kx:ByteArray→Int→Int→Option Y5) (s1:ByteArray) (most1:Int) (i:Int):Option Y5:=
 bif ilt i (slen s1) then
  chk (inB i s1.size)<|
  (Q136 N (icv .i64 (sbyte s1 i)) 32 126).bind fun r=>
  bif !r.1 then
   some (false,())
  else
   chk (inB i s1.size)<|
   bif ieq (sbyte s1 i) 35 then
    some (false,())
   else
    kx s1 most1 (iadd .i64 i 1)
 else
  Q109_K1 N s1 most1
def Q109_L1 (N fu_:Nat):=it_3_0 (Q109_B1 N) fu_
def Q109_L1_run (N:Nat):=run3 (Q109_B1 N) (Q109_L1 N) (fun _ _ _ _=>rfl)
def Q109 (N:Nat) (s:ByteArray) (most:Int):Option Y5:=
 Q109_L1 N N s most 0
def Q144_K1 (N:Nat):Option Y5:=
 some (false,())
def Q144_B1 (N:Nat) (kx:ByteArray→Int→Int→Option Y5) (s1:ByteArray) (b1:Int) (i:Int):Option Y5:=
 bif ilt i (slen s1) then
  chk (inB i s1.size)<|
  bif ieq (sbyte s1 i) b1 then
   some (true,())
  else
   kx s1 b1 (iadd .i64 i 1)
 else
  Q144_K1 N
def Q144_L1 (N fu_:Nat):=it_3_0 (Q144_B1 N) fu_
def Q144_L1_run (N:Nat):=run3 (Q144_B1 N) (Q144_L1 N) (fun _ _ _ _=>rfl)
def Q144 (N:Nat) (s:ByteArray) (b:Int):Option Y5:=
 Q144_L1 N N s b 0
def Q129 (N:Nat) (e:ByteArray×ByteArray):Option Y5:=
 bif !(Go.Rx.seq e.1 (⟨#[]⟩:ByteArray)) then
  (Q109 N e.1 160).bind fun r=>
  bif r.1 then
   (Q144 N e.1 64).bind fun r1=>
   bif !r1.1 then
    (Q109 N e.2 200).bind fun r2=>
    some (r2.1,())
   else
    some (false,())
  else
   some (false,())
 else
  some (false,())
def Q139_F (N:Nat) (kr_:Int→Option Y8) (n:Int):Option Y8:=
 bif ilt n 0 then
  (kr_ (isub .i64 0 n)).bind fun r=>
  chk (sfit (⟨#[45]⟩:ByteArray) r.1)<|
  some (scat (⟨#[45]⟩:ByteArray) r.1,())
 else
  bif ilt n 10 then
   chk (cutB n (iadd .i64 n 1) (⟨#[48,49,50,51,52,53,54,55,56,57]⟩:ByteArray).size)<|
   some (scut (⟨#[48,49,50,51,52,53,54,55,56,57]⟩:ByteArray) n (iadd .i64 n 1),())
  else
   chk (ine 10 0)<|
   (kr_ (iquo .i64 n 10)).bind fun r1=>
   chk (ine 10 0)<|
   chk (ine 10 0)<|
   chk (cutB (irem n 10) (iadd .i64 (irem n 10) 1) (⟨#[48,49,50,51,52,53,54,55,56,57]⟩:ByteArray).size)<|
   chk (sfit r1.1 (scut (⟨#[48,49,50,51,52,53,54,55,56,57]⟩:ByteArray) (irem n 10) (iadd .i64 (irem n 10) 1)))<|
   some (scat r1.1 (scut (⟨#[48,49,50,51,52,53,54,55,56,57]⟩:ByteArray) (irem n 10) (iadd .i64 (irem n 10) 1)),())
def Q139_R (N:Nat):Nat→Int→Option Y8
 | 0=>fun _=>none
 | k_+1=>Q139_F N (Q139_R N k_)
theorem Q139_R_succ (N k_:Nat) (n:Int):Q139_R N (k_+1) n=Q139_F N (Q139_R N k_) n:=rfl
def Q139 (N:Nat) (n:Int):Option Y8:=Q139_R N N n
def Q145_K1 (N:Nat) (n1:Int):Option Y4:=
 some (n1,())
def Q145_B1 (N:Nat) (kx:ByteArray→Int→Int→Option Y4) (s1:ByteArray) (n:Int) (i:Int):Option Y4:=
 bif ilt i (slen s1) then
  chk (inB i s1.size)<|
  chk (ine 999979 0)<|
  kx s1 (irem (iadd .i64 (iadd .i64 (imul .i64 41 n) (icv .i64 (sbyte s1 i))) 1) 999979) (iadd .i64 i 1)
 else
  Q145_K1 N n
def Q145_L1 (N fu_:Nat):=it_3_0 (Q145_B1 N) fu_
def Q145_L1_run (N:Nat):=run3 (Q145_B1 N) (Q145_L1 N) (fun _ _ _ _=>rfl)
def Q145 (N:Nat) (s:ByteArray):Option Y4:=
 Q145_L1 N N s 7 0
def Q142 (N:Nat) (s:ByteArray):Option Y8:=
 chk (sfit s (⟨#[35]⟩:ByteArray))<|
 (Q145 N s).bind fun r=>
 (Q139 N r.1).bind fun r1=>
 chk (sfit (scat s (⟨#[35]⟩:ByteArray)) r1.1)<|
 some (scat (scat s (⟨#[35]⟩:ByteArray)) r1.1,())
def Q119 (N:Nat) (kx:Int) (e:ByteArray×ByteArray):Option Y8:=
 (Q139 N kx).bind fun r=>
 chk (sfit r.1 (⟨#[32]⟩:ByteArray))<|
 chk (sfit (scat r.1 (⟨#[32]⟩:ByteArray)) e.1)<|
 chk (sfit (scat (scat r.1 (⟨#[32]⟩:ByteArray)) e.1) (⟨#[64]⟩:ByteArray))<|
 chk (sfit (scat (scat (scat r.1 (⟨#[32]⟩:ByteArray)) e.1) (⟨#[64]⟩:ByteArray)) e.2)<|
 (Q142 N (scat (scat (scat (scat r.1 (⟨#[32]⟩:ByteArray)) e.1) (⟨#[64]⟩:ByteArray)) e.2)).bind fun r1=>
 chk (sfit r1.1 (⟨#[10]⟩:ByteArray))<|
 some (scat r1.1 (⟨#[10]⟩:ByteArray),())
def Q112 (N:Nat) (s:ByteArray) (kx:Int):Option ((Y10×Bool)×Unit):=
 (Q139 N kx).bind fun r=>
 chk (sfit r.1 (⟨#[32]⟩:ByteArray))<|
 (Q143 N s 35).bind fun r1=>
 chk (inB 0 r1.1.length)<|
 bif ilt (slen (gd r1.1 0 (⟨#[]⟩:ByteArray))) (slen (scat r.1 (⟨#[32]⟩:ByteArray))) then
  some ((((⟨#[]⟩:ByteArray),(⟨#[]⟩:ByteArray)),false),())
 else
  chk (cutB 0 (slen (scat r.1 (⟨#[32]⟩:ByteArray))) (gd r1.1 0 (⟨#[]⟩:ByteArray)).size)<|
  bif !(Go.Rx.seq (scut (gd r1.1 0 (⟨#[]⟩:ByteArray)) 0 (slen (scat r.1 (⟨#[32]⟩:ByteArray)))) (scat r.1 (⟨#[32]⟩:ByteArray))) then
   some ((((⟨#[]⟩:ByteArray),(⟨#[]⟩:ByteArray)),false),())
  else
   chk (cutB (slen (scat r.1 (⟨#[32]⟩:ByteArray))) (slen (gd r1.1 0 (⟨#[]⟩:ByteArray))) (gd r1.1 0 (⟨#[]⟩:ByteArray)).size)<|
   (Q143 N (scut (gd r1.1 0 (⟨#[]⟩:ByteArray)) (slen (scat r.1 (⟨#[32]⟩:ByteArray))) (slen (gd r1.1 0 (⟨#[]⟩:ByteArray)))) 64).bind fun r2=>
   chk (inB 0 r2.1.length)<|
   bif ieq (slen (gd r2.1 0 (⟨#[]⟩:ByteArray))) (slen (scut (gd r1.1 0 (⟨#[]⟩:ByteArray)) (slen (scat r.1 (⟨#[32]⟩:ByteArray))) (slen (gd r1.1 0 (⟨#[]⟩:ByteArray))))) then
    some ((((⟨#[]⟩:ByteArray),(⟨#[]⟩:ByteArray)),false),())
   else
    chk (cutB (iadd .i64 (slen (gd r2.1 0 (⟨#[]⟩:ByteArray))) 1) (slen (scut (gd r1.1 0 (⟨#[]⟩:ByteArray)) (slen (scat r.1 (⟨#[32]⟩:ByteArray))) (slen (gd r1.1 0 (⟨#[]⟩:ByteArray))))) (scut (gd r1.1 0 (⟨#[]⟩:ByteArray)) (slen (scat r.1 (⟨#[32]⟩:ByteArray))) (slen (gd r1.1 0 (⟨#[]⟩:ByteArray)))).size)<|
    (Q129 N (gd r2.1 0 (⟨#[]⟩:ByteArray),scut (scut (gd r1.1 0 (⟨#[]⟩:ByteArray)) (slen (scat r.1 (⟨#[32]⟩:ByteArray))) (slen (gd r1.1 0 (⟨#[]⟩:ByteArray)))) (iadd .i64 (slen (gd r2.1 0 (⟨#[]⟩:ByteArray))) 1) (slen (scut (gd r1.1 0 (⟨#[]⟩:ByteArray)) (slen (scat r.1 (⟨#[32]⟩:ByteArray))) (slen (gd r1.1 0 (⟨#[]⟩:ByteArray))))))).bind fun r3=>
    bif r3.1 then
     (Q119 N kx (gd r2.1 0 (⟨#[]⟩:ByteArray),scut (scut (gd r1.1 0 (⟨#[]⟩:ByteArray)) (slen (scat r.1 (⟨#[32]⟩:ByteArray))) (slen (gd r1.1 0 (⟨#[]⟩:ByteArray)))) (iadd .i64 (slen (gd r2.1 0 (⟨#[]⟩:ByteArray))) 1) (slen (scut (gd r1.1 0 (⟨#[]⟩:ByteArray)) (slen (scat r.1 (⟨#[32]⟩:ByteArray))) (slen (gd r1.1 0 (⟨#[]⟩:ByteArray))))))).bind fun r4=>
     chk (sfit s (⟨#[10]⟩:ByteArray))<|
     some (((gd r2.1 0 (⟨#[]⟩:ByteArray),scut (scut (gd r1.1 0 (⟨#[]⟩:ByteArray)) (slen (scat r.1 (⟨#[32]⟩:ByteArray))) (slen (gd r1.1 0 (⟨#[]⟩:ByteArray)))) (iadd .i64 (slen (gd r2.1 0 (⟨#[]⟩:ByteArray))) 1) (slen (scut (gd r1.1 0 (⟨#[]⟩:ByteArray)) (slen (scat r.1 (⟨#[32]⟩:ByteArray))) (slen (gd r1.1 0 (⟨#[]⟩:ByteArray)))))),Go.Rx.seq r4.1 (scat s (⟨#[10]⟩:ByteArray))),())
    else
     some (((gd r2.1 0 (⟨#[]⟩:ByteArray),scut (scut (gd r1.1 0 (⟨#[]⟩:ByteArray)) (slen (scat r.1 (⟨#[32]⟩:ByteArray))) (slen (gd r1.1 0 (⟨#[]⟩:ByteArray)))) (iadd .i64 (slen (gd r2.1 0 (⟨#[]⟩:ByteArray))) 1) (slen (scut (gd r1.1 0 (⟨#[]⟩:ByteArray)) (slen (scat r.1 (⟨#[32]⟩:ByteArray))) (slen (gd r1.1 0 (⟨#[]⟩:ByteArray)))))),false),())
def Q125_K1 (N:Nat) (atx1:Int) (out1:List Y10):Option (((List Y10)×Int)×Unit):=
 some ((out1,atx1),())
def Q125_B1 (N:Nat) (kx:ByteArray→Int→(List Y10)→Option (((List Y10)×Int)×Unit)) (s1:ByteArray) (atx:Int) (out:List Y10):Option (((List Y10)×Int)×Unit):=
 bif ilt atx (slen s1) then
  bif ilt (len out) 60 then
   chk (cutB atx (slen s1) s1.size)<|
   (Q143 N (scut s1 atx (slen s1)) 10).bind fun r=>
   chk (inB 0 r.1.length)<|
   (Q112 N (gd r.1 0 (⟨#[]⟩:ByteArray)) (len out)).bind fun r1=>
   bif ilt (len r.1) 2 then
    Q125_K1 N atx out
   else
    bif !r1.1.2 then
     Q125_K1 N atx out
    else
     chk (fitB (out.length+1) 32)<|
     chk (inB 0 r.1.length)<|
     kx s1 (iadd .i64 (iadd .i64 atx (slen (gd r.1 0 (⟨#[]⟩:ByteArray)))) 1) (out++[r1.1.1])
  else
   Q125_K1 N atx out
 else
  Q125_K1 N atx out
def Q125_L1 (N fu_:Nat):=it_2_1 (Q125_B1 N) fu_
theorem Q125_L1_succ (N fu_:Nat) (s1:ByteArray) (atx:Int) (out:List Y10):Q125_L1 N (fu_+1) s1 atx out=Q125_B1 N (fun s1 atx out=>Q125_L1 N fu_ s1 atx out) s1 atx out:=rfl
def Q125 (N:Nat) (s:ByteArray):Option (((List Y10)×Int)×Unit):=
 Q125_L1 N N s 0 []
def Q134 (N:Nat) (l:ByteArray×ByteArray×Int):Option Y5:=
 bif ilt 30000 (iadd .i64 (slen l.1) (slen l.2.1)) then
  some (false,())
 else
  chk (sfit l.1 l.2.1)<|
  (Q125 N (scat l.1 l.2.1)).bind fun r=>
  (Q125 N l.1).bind fun r1=>
  bif ieq r.1.2 (iadd .i64 (slen l.1) (slen l.2.1)) then
   bif ieq r1.1.2 (slen l.1) then
    some (ieq (len r.1.1) l.2.2,())
   else
    some (false,())
  else
   some (false,())
def Q155_K1 (N:Nat) (row2:List Int) (n2:Int):Option Y5:=
 some (ieq (len row2) n2,())
def Q155_B1 (N:Nat) (kx:(List Int)→Int→Int→Int→Option Y5) (row1:List Int) (n1:Int) (most1:Int) (i:Int):Option Y5:=
 bif ilt i (len row1) then
  chk (inB i row1.length)<|
  (Q136 N (gd row1 i.toNat 0) 0 most1).bind fun r=>
  bif !r.1 then
   some (false,())
  else
   kx row1 n1 most1 (iadd .i64 i 1)
 else
  Q155_K1 N row1 n1
def Q155_L1 (N fu_:Nat):=it_4_0 (Q155_B1 N) fu_
def Q155_L1_run (N:Nat):=run4 (Q155_B1 N) (Q155_L1 N) (fun _ _ _ _ _=>rfl)
def Q155 (N:Nat) (row:List Int) (n:Int) (most:Int):Option Y5:=
 Q155_L1 N N row n most 0
def Q152 (N:Nat) (c:(List Int)×(List Int)×(List Int)×(List Int)):Option Y5:=
 bif ile (len c.1) 8 then
  (Q155 N c.1 (len c.1) 20).bind fun r=>
  bif r.1 then
   (Q155 N c.2.1 (len c.1) 99).bind fun r1=>
   bif r1.1 then
    (Q155 N c.2.2.1 (len c.1) 9).bind fun r2=>
    bif r2.1 then
     (Q155 N c.2.2.2 (len c.1) 9).bind fun r3=>
     some (r3.1,())
    else
     some (false,())
   else
    some (false,())
  else
   some (false,())
 else
  some (false,())
def Q132_K1 (N:Nat) (sum1:Int):Option Y4:=
 some (sum1,())
def Q132_B1 (N:Nat) (kx:Int→Int→Int→Y3→Option Y4) (many1:Int) (sum:Int) (t:Int) (l1:Y0×(List Int)×Int):Option Y4:=
 bif ilt t many1 then
  chk (inB t l1.2.1.length)<|
  chk (inB t l1.1.1.length)<|
  kx many1 (isub .i64 (iadd .i64 sum (gd l1.2.1 t.toNat 0)) (gd l1.1.1 t.toNat 0)) (iadd .i64 t 1) l1
 else
  Q132_K1 N sum
def Q132_L1 (N fu_:Nat):=it_3_1 (Q132_B1 N) fu_
def Q132_L1_run (N:Nat):=run4 (Q132_B1 N) (Q132_L1 N) (fun _ _ _ _ _=>rfl)
def Q132 (N:Nat) (l:Y0×(List Int)×Int) (many:Int):Option Y4:=
 Q132_L1 N N many 0 0 l
def Q117_K1 (N:Nat):Option Y5:=
 some (true,())
def Q117_B1 (N:Nat) (kx:Int→Y3→Option Y5) (t:Int) (l1:Y0×(List Int)×Int):Option Y5:=
 bif ile t l1.2.2 then
  (Q132 N l1 t).bind fun r3=>
  bif ilt r3.1 0 then
   some (false,())
  else
   kx (iadd .i64 t 1) l1
 else
  Q117_K1 N
def Q117_L1 (N fu_:Nat):=it_1_1 (Q117_B1 N) fu_
def Q117_L1_run (N:Nat):=run2 (Q117_B1 N) (Q117_L1 N) (fun _ _ _=>rfl)
def Q117 (N:Nat) (l:Y0×(List Int)×Int):Option Y5:=
 (Q152 N l.1).bind fun r=>
 bif !r.1 then
  some (false,())
 else
  (Q155 N l.2.1 (len l.1.1) 200).bind fun r1=>
  bif !r1.1 then
   some (false,())
  else
   (Q136 N l.2.2 0 (len l.1.1)).bind fun r2=>
   bif !r2.1 then
    some (false,())
   else
    Q117_L1 N N 1 l
def Q103 (N:Nat) (c:Y3×ByteArray×ByteArray×Int):Option Y5:=
 (Q117 N c.1).bind fun r=>
 bif r.1 then
  (Q134 N c.2).bind fun r1=>
  some (r1.1,())
 else
  some (false,())
def Q140 (N:Nat) (l:List Int):Option Y1:=
 chk (fitB (0+l.length) 8)<|
 some (l,())
def Q126 (N:Nat) (l:Y0×(List Int)×Int):Option (Y3×Unit):=
 (Q140 N l.1.1).bind fun r=>
 (Q140 N l.1.2.1).bind fun r1=>
 (Q140 N l.1.2.2.1).bind fun r2=>
 (Q140 N l.1.2.2.2).bind fun r3=>
 (Q140 N l.2.1).bind fun r4=>
 some (((r.1,(r1.1,(r2.1,r3.1))),(r4.1,l.2.2)),())
def Q127_K1 (N:Nat) (a1:Int×Int×Int×Int×Int):Option Y5:=
 (Q136 N a1.1 4 6).bind fun r=>
 bif r.1 then
  bif ieq a1.2.1 0 then
   bif ieq a1.2.2.1 0 then
    bif ieq a1.2.2.2.1 0 then
     some (ieq a1.2.2.2.2 0,())
    else
     some (false,())
   else
    some (false,())
  else
   some (false,())
 else
  some (false,())
def Q127 (N:Nat) (a:Int×Int×Int×Int×Int):Option Y5:=
 bif ieq a.1 1 then
  some (true,())
 else
  bif ieq a.1 2 then
   bif ieq a.2.2.2.1 0 then
    some (ieq a.2.2.2.2 0,())
   else
    some (false,())
  else
   bif ieq a.1 3 then
    bif ieq a.2.2.2.1 0 then
     some (ieq a.2.2.2.2 0,())
    else
     some (false,())
   else
    Q127_K1 N a
def Q110 (N:Nat) (l:Y0×(List Int)×Int) (t:Int):Option Y5:=
 (Q136 N t l.2.2 (isub .i64 (len l.2.1) 1)).bind fun r=>
 some (r.1,())
def Q122 (N:Nat) (l:Y0×(List Int)×Int) (a:Int×Int×Int×Int×Int):Option Y5:=
 bif ieq a.1 2 then
  (Q110 N l a.2.1).bind fun r=>
  some (r.1,())
 else
  bif ieq a.1 3 then
   (Q110 N l a.2.1).bind fun r1=>
   some (r1.1,())
  else
   bif ieq a.1 4 then
    (Q110 N l l.2.2).bind fun r2=>
    some (r2.1,())
   else
    some (true,())
def Q157_K1 (N:Nat) (sum1:Int):Option Y4:=
 some (sum1,())
def Q157_B1 (N:Nat) (kx:(List Int)→Int→Int→Option Y4) (list1:List Int) (sum:Int) (i:Int):Option Y4:=
 bif ilt i (len list1) then
  chk (inB i list1.length)<|
  kx list1 (iadd .i64 sum (gd list1 i.toNat 0)) (iadd .i64 i 1)
 else
  Q157_K1 N sum
def Q157_L1 (N fu_:Nat):=it_3_0 (Q157_B1 N) fu_
def Q157_L1_run (N:Nat):=run3 (Q157_B1 N) (Q157_L1 N) (fun _ _ _ _=>rfl)
def Q157 (N:Nat) (list:List Int):Option Y4:=
 Q157_L1 N N list 0 0
def Q151_K1 (N:Nat) (kx:(List Int)→Int→Y0→(List Int)→Option Y1) (periods2:List Int) (i1:Int) (to:Int) (c2:(List Int)×(List Int)×(List Int)×(List Int)) (out1:List Int):Option Y1:=
 chk (inB i1 periods2.length)<|
 chk (inB i1 periods2.length)<|
 chk (cutB (gd periods2 i1.toNat 0) to c2.1.length)<|
 (Q157 N (cut c2.1 (gd periods2 i1.toNat 0) to)).bind fun r=>
 chk (inB (gd periods2 i1.toNat 0) out1.length)<|
 kx periods2 (iadd .i64 i1 1) c2 (List.set out1 (gd periods2 i1.toNat 0).toNat r.1)
def Q151_K2 (N:Nat) (out2:List Int):Option Y1:=
 some (out2,())
def Q151_B1 (N:Nat) (kx:(List Int)→Int→Y0→(List Int)→Option Y1) (periods1:List Int) (i:Int) (c1:(List Int)×(List Int)×(List Int)×(List Int)) (out:List Int):Option Y1:=
 bif ilt i (len periods1) then
  bif ilt (iadd .i64 i 1) (len periods1) then
   chk (inB (iadd .i64 i 1) periods1.length)<|
   Q151_K1 N kx periods1 i (gd periods1 (iadd .i64 i 1).toNat 0) c1 out
  else
   Q151_K1 N kx periods1 i (len c1.1) c1 out
 else
  Q151_K2 N out
def Q151_L1 (N fu_:Nat):=it_2_2 (Q151_B1 N) fu_
def Q151_L1_run (N:Nat):=run4 (Q151_B1 N) (Q151_L1 N) (fun _ _ _ _ _=>rfl)
def Q151 (N:Nat) (c:(List Int)×(List Int)×(List Int)×(List Int)) (periods:List Int):Option Y1:=
 chk (mkB (len c.1) 8)<|
 Q151_L1 N N periods 0 c (List.replicate (len c.1).toNat 0)
def Q137 (N:Nat) (a:Int) (b:Int):Option Y4:=
 bif ilt a b then
  some (a,())
 else
  some (b,())
def Q118_K1 (N:Nat) (out1:List Int):Option Y1:=
 some (out1,())
def Q118_B1 (N:Nat) (kx:Int→Int→Y3→(List Int)→Option Y1) (stock:Int) (t:Int) (l1:Y0×(List Int)×Int) (out:List Int):Option Y1:=
 bif ilt t (len l1.2.1) then
  chk (inB t l1.1.1.length)<|
  (Q137 N stock (gd l1.1.1 t.toNat 0)).bind fun r1=>
  chk (inB t l1.1.1.length)<|
  chk (fitB (out.length+1) 8)<|
  kx (isub .i64 stock r1.1) (iadd .i64 t 1) l1 (out++[isub .i64 (gd l1.1.1 t.toNat 0) r1.1])
 else
  Q118_K1 N out
def Q118_L1 (N fu_:Nat):=it_2_2 (Q118_B1 N) fu_
def Q118_L1_run (N:Nat):=run4 (Q118_B1 N) (Q118_L1 N) (fun _ _ _ _ _=>rfl)
def Q118 (N:Nat) (l:Y0×(List Int)×Int):Option Y1:=
 (Q132 N l l.2.2).bind fun r=>
 Q118_L1 N N r.1 l.2.2 l []
def Q108 (N:Nat) (l:Y0×(List Int)×Int):Option (Y0×Unit):=
 (Q118 N l).bind fun r=>
 chk (cutB l.2.2 (len l.1.2.1) l.1.2.1.length)<|
 (Q140 N (cut l.1.2.1 l.2.2 (len l.1.2.1))).bind fun r1=>
 chk (cutB l.2.2 (len l.1.2.2.1) l.1.2.2.1.length)<|
 (Q140 N (cut l.1.2.2.1 l.2.2 (len l.1.2.2.1))).bind fun r2=>
 chk (cutB l.2.2 (len l.1.2.2.2) l.1.2.2.2.length)<|
 (Q140 N (cut l.1.2.2.2 l.2.2 (len l.1.2.2.2))).bind fun r3=>
 some ((r.1,(r1.1,(r2.1,r3.1))),())
def Q156_K1 (N:Nat) (out1:List Int):Option Y1:=
 some (out1,())
def Q156_B1 (N:Nat) (kx:(List Int)→Int→Int→Y0→(List Int)→Option Y1) (plan1:List Int) (now:Int) (t:Int) (c1:(List Int)×(List Int)×(List Int)×(List Int)) (out:List Int):Option Y1:=
 bif ilt t (len plan1) then
  chk (inB t plan1.length)<|
  chk (inB t c1.1.length)<|
  chk (fitB (out.length+1) 8)<|
  kx plan1 (isub .i64 (iadd .i64 now (gd plan1 t.toNat 0)) (gd c1.1 t.toNat 0)) (iadd .i64 t 1) c1 (out++[isub .i64 (iadd .i64 now (gd plan1 t.toNat 0)) (gd c1.1 t.toNat 0)])
 else
  Q156_K1 N out
def Q156_L1 (N fu_:Nat):=it_3_2 (Q156_B1 N) fu_
def Q156_L1_run (N:Nat):=run5 (Q156_B1 N) (Q156_L1 N) (fun _ _ _ _ _ _=>rfl)
def Q156 (N:Nat) (c:(List Int)×(List Int)×(List Int)×(List Int)) (plan:List Int):Option Y1:=
 Q156_L1 N N plan 0 0 c []
def Q154_K1 (N:Nat) (kx:(List Int)→Int→Y0→(List Int)→(List Int)→(List Int)→Option Y1) (plan2:List Int) (t1:Int) (c2:(List Int)×(List Int)×(List Int)×(List Int)) (v41:List Int) (out1:List Int) (stocks1:List Int):Option Y1:=
 chk (inB 1 3)<|
 chk (inB t1 c2.2.2.1.length)<|
 chk (inB t1 plan2.length)<|
 chk (inB 1 3)<|
 chk (inB 2 3)<|
 chk (inB t1 c2.2.2.2.length)<|
 chk (inB t1 stocks1.length)<|
 chk (inB 2 3)<|
 kx plan2 (iadd .i64 t1 1) c2 v41 (List.set (List.set out1 1 (iadd .i64 (gd out1 1 0) (imul .i64 (gd c2.2.2.1 t1.toNat 0) (gd plan2 t1.toNat 0)))) 2 (iadd .i64 (gd (List.set out1 1 (iadd .i64 (gd out1 1 0) (imul .i64 (gd c2.2.2.1 t1.toNat 0) (gd plan2 t1.toNat 0)))) 2 0) (imul .i64 (gd c2.2.2.2 t1.toNat 0) (gd stocks1 t1.toNat 0)))) stocks1
def Q154_K2 (N:Nat) (v42:List Int) (out2:List Int):Option Y1:=
 some (out2,())
def Q154_B1 (N:Nat) (kx:(List Int)→Int→Y0→(List Int)→(List Int)→(List Int)→Option Y1) (plan1:List Int) (t:Int) (c1:(List Int)×(List Int)×(List Int)×(List Int)) (v4:List Int) (out:List Int) (stocks:List Int):Option Y1:=
 bif ilt t (len plan1) then
  chk (inB t plan1.length)<|
  bif ilt 0 (gd plan1 t.toNat 0) then
   chk (inB 0 3)<|
   chk (inB t c1.2.1.length)<|
   chk (inB 0 3)<|
   Q154_K1 N kx plan1 t c1 v4 (List.set out 0 (iadd .i64 (gd out 0 0) (gd c1.2.1 t.toNat 0))) stocks
  else
   Q154_K1 N kx plan1 t c1 v4 out stocks
 else
  Q154_K2 N v4 out
def Q154_L1 (N fu_:Nat):=it_2_4 (Q154_B1 N) fu_
def Q154_L1_run (N:Nat):=run6 (Q154_B1 N) (Q154_L1 N) (fun _ _ _ _ _ _ _=>rfl)
def Q154 (N:Nat) (c:(List Int)×(List Int)×(List Int)×(List Int)) (plan:List Int):Option Y1:=
 (Q156 N c plan).bind fun r=>
 Q154_L1 N N plan 0 c (List.replicate 3 0) (List.replicate 3 0) r.1
def Q149 (N:Nat) (c:(List Int)×(List Int)×(List Int)×(List Int)) (plan:List Int):Option Y4:=
 (Q154 N c plan).bind fun r=>
 chk (inB 0 3)<|
 chk (inB 1 3)<|
 chk (inB 2 3)<|
 some (iadd .i64 (iadd .i64 (gd r.1 0 0) (gd r.1 1 0)) (gd r.1 2 0),())
def Q148_K1 (N:Nat) (out1:List Int):Option Y1:=
 some (out1,())
def Q148_B1 (N:Nat) (kx:Int→Int→Int→(List Int)→Option Y1) (n1:Int) (code1:Int) (x:Int) (out:List Int):Option Y1:=
 bif ilt x n1 then
  chk (ile 0 x)<|
  bif ieq (iand .i64 (ishr .i64 code1 x) 1) 1 then
   chk (fitB (out.length+1) 8)<|
   kx n1 code1 (iadd .i64 x 1) (out++[x])
  else
   kx n1 code1 (iadd .i64 x 1) out
 else
  Q148_K1 N out
def Q148_L1 (N fu_:Nat):=it_3_1 (Q148_B1 N) fu_
def Q148_L1_run (N:Nat):=run4 (Q148_B1 N) (Q148_L1 N) (fun _ _ _ _ _=>rfl)
def Q148 (N:Nat) (n:Int) (code:Int):Option Y1:=
 Q148_L1 N N n code 0 []
def Q150_K1 (N:Nat):Option Y5:=
 some (true,())
def Q150_B1 (N:Nat) (kx:(List Int)→Int→Y0→Option Y5) (periods1:List Int) (t:Int) (c1:(List Int)×(List Int)×(List Int)×(List Int)):Option Y5:=
 bif ilt t (len c1.1) then
  bif ilt 0 (len periods1) then
   chk (inB 0 periods1.length)<|
   bif ile (gd periods1 0 0) t then
    some (true,())
   else
    chk (inB t c1.1.length)<|
    bif ilt 0 (gd c1.1 t.toNat 0) then
     some (false,())
    else
     kx periods1 (iadd .i64 t 1) c1
  else
   chk (inB t c1.1.length)<|
   bif ilt 0 (gd c1.1 t.toNat 0) then
    some (false,())
   else
    kx periods1 (iadd .i64 t 1) c1
 else
  Q150_K1 N
def Q150_L1 (N fu_:Nat):=it_2_1 (Q150_B1 N) fu_
def Q150_L1_run (N:Nat):=run3 (Q150_B1 N) (Q150_L1 N) (fun _ _ _ _=>rfl)
def Q150 (N:Nat) (c:(List Int)×(List Int)×(List Int)×(List Int)) (periods:List Int):Option Y5:=
 Q150_L1 N N periods 0 c
def Q146_K1 (N:Nat):Option Y5:=
 some (false,())
def Q146_B1 (N:Nat) (kx:(List Int)→(List Int)→Int→Option Y5) (a1:List Int) (b1:List Int) (i:Int):Option Y5:=
 bif ilt i (len a1) then
  chk (inB i a1.length)<|
  chk (inB i b1.length)<|
  bif ine (gd a1 i.toNat 0) (gd b1 i.toNat 0) then
   chk (inB i a1.length)<|
   chk (inB i b1.length)<|
   some (ilt (gd a1 i.toNat 0) (gd b1 i.toNat 0),())
  else
   kx a1 b1 (iadd .i64 i 1)
 else
  Q146_K1 N
def Q146_L1 (N fu_:Nat):=it_3_0 (Q146_B1 N) fu_
def Q146_L1_run (N:Nat):=run3 (Q146_B1 N) (Q146_L1 N) (fun _ _ _ _=>rfl)
def Q146 (N:Nat) (a:List Int) (b:List Int):Option Y5:=
 bif ine (len a) (len b) then
  some (ilt (len a) (len b),())
 else
  Q146_L1 N N a b 0
def Q147_K1 (N:Nat) (best1:List Int):Option Y1:=
 some (best1,())
def Q147_B1 (N:Nat) (kx:Int→Int→Y0→(List Int)→Option Y1) (least:Int) (code:Int) (c1:(List Int)×(List Int)×(List Int)×(List Int)) (best:List Int):Option Y1:=
 chk (ile 0 (len c1.1))<|
 bif ilt code (ishl .i64 1 (len c1.1)) then
  (Q148 N (len c1.1) code).bind fun r=>
  (Q150 N c1 r.1).bind fun r1=>
  bif !r1.1 then
   kx least (iadd .i64 code 1) c1 best
  else
   (Q151 N c1 r.1).bind fun r2=>
   (Q149 N c1 r2.1).bind fun r3=>
   bif ilt least 0 then
    kx r3.1 (iadd .i64 code 1) c1 r.1
   else
    bif ilt r3.1 least then
     kx r3.1 (iadd .i64 code 1) c1 r.1
    else
     bif ieq r3.1 least then
      (Q146 N r.1 best).bind fun r4=>
      bif r4.1 then
       kx r3.1 (iadd .i64 code 1) c1 r.1
      else
       kx least (iadd .i64 code 1) c1 best
     else
      kx least (iadd .i64 code 1) c1 best
 else
  Q147_K1 N best
def Q147_L1 (N fu_:Nat):=it_2_2 (Q147_B1 N) fu_
def Q147_L1_run (N:Nat):=run4 (Q147_B1 N) (Q147_L1 N) (fun _ _ _ _ _=>rfl)
def Q147 (N:Nat) (c:(List Int)×(List Int)×(List Int)×(List Int)):Option Y1:=
 Q147_L1 N N (-1) 0 c []
def Q121 (N:Nat) (l:Y0×(List Int)×Int) (a:Int×Int×Int×Int×Int):Option (Y3×Unit):=
 (Q126 N l).bind fun r=>
 bif ieq a.1 1 then
  chk (fitB (r.1.1.1.length+1) 8)<|
  chk (fitB (r.1.1.2.1.length+1) 8)<|
  chk (fitB (r.1.1.2.2.1.length+1) 8)<|
  chk (fitB (r.1.1.2.2.2.length+1) 8)<|
  chk (fitB (r.1.2.1.length+1) 8)<|
  some (((r.1.1.1++[a.2.1],(r.1.1.2.1++[a.2.2.1],(r.1.1.2.2.1++[a.2.2.2.1],r.1.1.2.2.2++[a.2.2.2.2]))),(r.1.2.1++[0],r.1.2.2)),())
 else
  bif ieq a.1 2 then
   chk (inB a.2.1 r.1.1.1.length)<|
   some (((List.set r.1.1.1 a.2.1.toNat a.2.2.1,r.1.1.2),r.1.2),())
  else
   bif ieq a.1 3 then
    chk (inB a.2.1 r.1.2.1.length)<|
    some ((r.1.1,(List.set r.1.2.1 a.2.1.toNat a.2.2.1,r.1.2.2)),())
   else
    bif ieq a.1 4 then
     some ((r.1.1,(r.1.2.1,iadd .i64 l.2.2 1)),())
    else
     bif ieq a.1 5 then
      (Q108 N l).bind fun r1=>
      chk (cutB 0 l.2.2 l.2.1.length)<|
      (Q140 N (cut l.2.1 0 l.2.2)).bind fun r2=>
      (Q147 N r1.1).bind fun r3=>
      (Q151 N r1.1 r3.1).bind fun r4=>
      chk (fitB (r2.1.length+r4.1.length) 8)<|
      some ((r.1.1,(r2.1++r4.1,r.1.2.2)),())
     else
      bif ieq a.1 6 then
       chk (cutB 0 l.2.2 l.2.1.length)<|
       (Q140 N (cut l.2.1 0 l.2.2)).bind fun r5=>
       chk (mkZ (isub .i64 (len l.2.1) l.2.2) r5.1.length 8)<|
       some ((r.1.1,(r5.1++(List.replicate (isub .i64 (len l.2.1) l.2.2).toNat 0),r.1.2.2)),())
      else
       some (r.1,())
def Q113 (N:Nat) (l:Y0×(List Int)×Int) (a:Int×Int×Int×Int×Int):Option ((Y3×Bool)×Unit):=
 (Q127 N a).bind fun r=>
 bif !r.1 then
  some (((([],([],([],[]))),([],0)),false),())
 else
  (Q122 N l a).bind fun r1=>
  bif !r1.1 then
   some (((([],([],([],[]))),([],0)),false),())
  else
   (Q121 N l a).bind fun r2=>
   (Q117 N r2.1).bind fun r3=>
   bif !r3.1 then
    some (((([],([],([],[]))),([],0)),false),())
   else
    some ((r2.1,true),())
def Q123_K1 (N:Nat) (s1:ByteArray):Option Y8:=
 bif Go.Rx.seq s1 (⟨#[]⟩:ByteArray) then
  some ((⟨#[110,111,110,101]⟩:ByteArray),())
 else
  some (s1,())
def Q123_B1 (N:Nat) (kx:(List Int)→ByteArray→Int→Option Y8) (list1:List Int) (s:ByteArray) (i:Int):Option Y8:=
 bif ilt i (len list1) then
  bif ilt 0 i then
   chk (sfit s (⟨#[32]⟩:ByteArray))<|
   chk (inB i list1.length)<|
   (Q139 N (gd list1 i.toNat 0)).bind fun r=>
   chk (sfit (scat s (⟨#[32]⟩:ByteArray)) r.1)<|
   kx list1 (scat (scat s (⟨#[32]⟩:ByteArray)) r.1) (iadd .i64 i 1)
  else
   chk (inB i list1.length)<|
   (Q139 N (gd list1 i.toNat 0)).bind fun r1=>
   chk (sfit s r1.1)<|
   kx list1 (scat s r1.1) (iadd .i64 i 1)
 else
  Q123_K1 N s
def Q123_L1 (N fu_:Nat):=it_3_0 (Q123_B1 N) fu_
def Q123_L1_run (N:Nat):=run3 (Q123_B1 N) (Q123_L1 N) (fun _ _ _ _=>rfl)
def Q123 (N:Nat) (list:List Int):Option Y8:=
 Q123_L1 N N list (⟨#[]⟩:ByteArray) 0
def Q131_K1 (N:Nat) (out1:List Int):Option Y1:=
 some (out1,())
def Q131_B1 (N:Nat) (kx:Int→Y3→(List Int)→Option Y1) (t:Int) (l1:Y0×(List Int)×Int) (out:List Int):Option Y1:=
 bif ilt t (len l1.2.1) then
  (Q132 N l1 (iadd .i64 t 1)).bind fun r=>
  bif ilt r.1 0 then
   chk (fitB (out.length+1) 8)<|
   kx (iadd .i64 t 1) l1 (out++[t])
  else
   kx (iadd .i64 t 1) l1 out
 else
  Q131_K1 N out
def Q131_L1 (N fu_:Nat):=it_1_2 (Q131_B1 N) fu_
def Q131_L1_run (N:Nat):=run3 (Q131_B1 N) (Q131_L1 N) (fun _ _ _ _=>rfl)
def Q131 (N:Nat) (l:Y0×(List Int)×Int):Option Y1:=
 Q131_L1 N N l.2.2 l []
def Q114 (N:Nat) (l:Y0×(List Int)×Int) (a:Int×Int×Int×Int×Int):Option Y15:=
 (Q113 N l a).bind fun r=>
 bif !r.1.2 then
  some ((l,(⟨#[63]⟩:ByteArray)),())
 else
  bif ieq a.1 1 then
   (Q139 N (len r.1.1.2.1)).bind fun r1=>
   some ((r.1.1,r1.1),())
  else
   bif ieq a.1 4 then
    (Q132 N r.1.1 r.1.1.2.2).bind fun r2=>
    (Q139 N r2.1).bind fun r3=>
    some ((r.1.1,r3.1),())
   else
    bif ieq a.1 5 then
     (Q123 N r.1.1.2.1).bind fun r4=>
     some ((r.1.1,r4.1),())
    else
     (Q131 N r.1.1).bind fun r5=>
     (Q123 N r5.1).bind fun r6=>
     some ((r.1.1,r6.1),())
def Q120 (N:Nat) (list:List Int) (ok:Bool):Option Y8:=
 bif !ok then
  some ((⟨#[63]⟩:ByteArray),())
 else
  (Q123 N list).bind fun r=>
  some (r.1,())
def Q130 (N:Nat) (n:Int) (ok:Bool):Option Y8:=
 bif !ok then
  some ((⟨#[63]⟩:ByteArray),())
 else
  (Q139 N n).bind fun r=>
  some (r.1,())
def Q111_K1 (N:Nat) (sum1:Int):Option Y4:=
 some (sum1,())
def Q111_B1 (N:Nat) (kx:Int→Int→Int→Y3→Option Y4) (to1:Int) (sum:Int) (t:Int) (l1:Y0×(List Int)×Int):Option Y4:=
 bif ilt t to1 then
  chk (inB t l1.1.2.2.1.length)<|
  chk (inB t l1.2.1.length)<|
  chk (inB t l1.1.2.2.2.length)<|
  (Q132 N l1 (iadd .i64 t 1)).bind fun r=>
  chk (inB t l1.2.1.length)<|
  bif ilt 0 (gd l1.2.1 t.toNat 0) then
   chk (inB t l1.1.2.1.length)<|
   kx to1 (iadd .i64 (iadd .i64 (iadd .i64 sum (imul .i64 (gd l1.1.2.2.1 t.toNat 0) (gd l1.2.1 t.toNat 0))) (imul .i64 (gd l1.1.2.2.2 t.toNat 0) r.1)) (gd l1.1.2.1 t.toNat 0)) (iadd .i64 t 1) l1
  else
   kx to1 (iadd .i64 (iadd .i64 sum (imul .i64 (gd l1.1.2.2.1 t.toNat 0) (gd l1.2.1 t.toNat 0))) (imul .i64 (gd l1.1.2.2.2 t.toNat 0) r.1)) (iadd .i64 t 1) l1
 else
  Q111_K1 N sum
def Q111_L1 (N fu_:Nat):=it_3_1 (Q111_B1 N) fu_
def Q111_L1_run (N:Nat):=run4 (Q111_B1 N) (Q111_L1 N) (fun _ _ _ _ _=>rfl)
def Q111 (N:Nat) (l:Y0×(List Int)×Int) (fromx:Int) (to:Int):Option Y4:=
 Q111_L1 N N to 0 fromx l
def Q98 (N:Nat) (l:Y0×(List Int)×Int):Option Y7:=
 (Q117 N l).bind fun r=>
 bif !r.1 then
  some ((0,false),())
 else
  (Q131 N l).bind fun r1=>
  bif ilt 0 (len r1.1) then
   some ((0,false),())
  else
   (Q111 N l l.2.2 (len l.2.1)).bind fun r2=>
   some ((r2.1,true),())
def Q158_K1 (N:Nat) (kx:ByteArray→Int→Y0→Option Y8) (s1:ByteArray) (t1:Int) (c2:(List Int)×(List Int)×(List Int)×(List Int)):Option Y8:=
 chk (inB t1 c2.1.length)<|
 (Q139 N (gd c2.1 t1.toNat 0)).bind fun r=>
 chk (sfit s1 r.1)<|
 chk (sfit (scat s1 r.1) (⟨#[47]⟩:ByteArray))<|
 chk (inB t1 c2.2.1.length)<|
 (Q139 N (gd c2.2.1 t1.toNat 0)).bind fun r1=>
 chk (sfit (scat (scat s1 r.1) (⟨#[47]⟩:ByteArray)) r1.1)<|
 chk (sfit (scat (scat (scat s1 r.1) (⟨#[47]⟩:ByteArray)) r1.1) (⟨#[47]⟩:ByteArray))<|
 chk (inB t1 c2.2.2.1.length)<|
 (Q139 N (gd c2.2.2.1 t1.toNat 0)).bind fun r2=>
 chk (sfit (scat (scat (scat (scat s1 r.1) (⟨#[47]⟩:ByteArray)) r1.1) (⟨#[47]⟩:ByteArray)) r2.1)<|
 chk (sfit (scat (scat (scat (scat (scat s1 r.1) (⟨#[47]⟩:ByteArray)) r1.1) (⟨#[47]⟩:ByteArray)) r2.1) (⟨#[47]⟩:ByteArray))<|
 chk (inB t1 c2.2.2.2.length)<|
 (Q139 N (gd c2.2.2.2 t1.toNat 0)).bind fun r3=>
 chk (sfit (scat (scat (scat (scat (scat (scat s1 r.1) (⟨#[47]⟩:ByteArray)) r1.1) (⟨#[47]⟩:ByteArray)) r2.1) (⟨#[47]⟩:ByteArray)) r3.1)<|
 kx (scat (scat (scat (scat (scat (scat (scat s1 r.1) (⟨#[47]⟩:ByteArray)) r1.1) (⟨#[47]⟩:ByteArray)) r2.1) (⟨#[47]⟩:ByteArray)) r3.1) (iadd .i64 t1 1) c2
def Q158_K2 (N:Nat) (s2:ByteArray) (c3:(List Int)×(List Int)×(List Int)×(List Int)):Option Y8:=
 bif ieq (len c3.1) 0 then
  some ((⟨#[110,111,110,101]⟩:ByteArray),())
 else
  some (s2,())
def Q158_B1 (N:Nat) (kx:ByteArray→Int→Y0→Option Y8) (s:ByteArray) (t:Int) (c1:(List Int)×(List Int)×(List Int)×(List Int)):Option Y8:=
 bif ilt t (len c1.1) then
  bif ilt 0 t then
   chk (sfit s (⟨#[32]⟩:ByteArray))<|
   Q158_K1 N kx (scat s (⟨#[32]⟩:ByteArray)) t c1
  else
   Q158_K1 N kx s t c1
 else
  Q158_K2 N s c1
def Q158_L1 (N fu_:Nat):=it_2_1 (Q158_B1 N) fu_
def Q158_L1_run (N:Nat):=run3 (Q158_B1 N) (Q158_L1 N) (fun _ _ _ _=>rfl)
def Q158 (N:Nat) (c:(List Int)×(List Int)×(List Int)×(List Int)):Option Y8:=
 Q158_L1 N N (⟨#[]⟩:ByteArray) 0 c
def Q153 (N:Nat) (c:(List Int)×(List Int)×(List Int)×(List Int)):Option Y4:=
 (Q147 N c).bind fun r=>
 (Q151 N c r.1).bind fun r1=>
 (Q149 N c r1.1).bind fun r2=>
 some (r2.1,())
def Q96 (N:Nat) (c:(List Int)×(List Int)×(List Int)×(List Int)):Option Y7:=
 (Q152 N c).bind fun r=>
 bif !r.1 then
  some ((0,false),())
 else
  (Q153 N c).bind fun r1=>
  some ((r1.1,true),())
def Q164_K1 (N:Nat) (sum1:Int):Option Y4:=
 some (sum1,())
def Q164_B1 (N:Nat) (kx1:Int→Int→Int→Y0→Option Y4) (t1:Int) (sum:Int) (kx:Int) (c1:(List Int)×(List Int)×(List Int)×(List Int)):Option Y4:=
 bif ilt kx t1 then
  chk (inB kx c1.2.2.2.length)<|
  kx1 t1 (iadd .i64 sum (gd c1.2.2.2 kx.toNat 0)) (iadd .i64 kx 1) c1
 else
  Q164_K1 N sum
def Q164_L1 (N fu_:Nat):=it_3_1 (Q164_B1 N) fu_
def Q164_L1_run (N:Nat):=run4 (Q164_B1 N) (Q164_L1 N) (fun _ _ _ _ _=>rfl)
def Q164 (N:Nat) (c:(List Int)×(List Int)×(List Int)×(List Int)) (i:Int) (t:Int):Option Y4:=
 chk (inB i c.2.2.1.length)<|
 Q164_L1 N N t (gd c.2.2.1 i.toNat 0) i c
def Q166_K1 (N:Nat) (i2:Int) (sum1:Int) (any1:Bool) (c2:(List Int)×(List Int)×(List Int)×(List Int)):Option Y4:=
 bif !any1 then
  some (0,())
 else
  chk (inB i2 c2.2.1.length)<|
  some (iadd .i64 (gd c2.2.1 i2.toNat 0) sum1,())
def Q166_B1 (N:Nat) (kx:Int→Int→Int→Bool→Int→Y0→Option Y4) (i1:Int) (j1:Int) (sum:Int) (any:Bool) (t:Int) (c1:(List Int)×(List Int)×(List Int)×(List Int)):Option Y4:=
 bif ilt t j1 then
  chk (inB t c1.1.length)<|
  (Q164 N c1 i1 t).bind fun r=>
  bif any then
   kx i1 j1 (iadd .i64 sum (imul .i64 (gd c1.1 t.toNat 0) r.1)) true (iadd .i64 t 1) c1
  else
   chk (inB t c1.1.length)<|
   kx i1 j1 (iadd .i64 sum (imul .i64 (gd c1.1 t.toNat 0) r.1)) (ilt 0 (gd c1.1 t.toNat 0)) (iadd .i64 t 1) c1
 else
  Q166_K1 N i1 sum any c1
def Q166_L1 (N fu_:Nat):=it_5_1 (Q166_B1 N) fu_
def Q166_L1_run (N:Nat):=run6 (Q166_B1 N) (Q166_L1 N) (fun _ _ _ _ _ _ _=>rfl)
def Q166 (N:Nat) (c:(List Int)×(List Int)×(List Int)×(List Int)) (i:Int) (j:Int):Option Y4:=
 Q166_L1 N N i j 0 false i c
def Q162_K1 (N:Nat) (kx:Int→Y0→(List Int)→(List Int)→Option Y11) (j2:Int) (best1:Int) (c3:(List Int)×(List Int)×(List Int)×(List Int)) (costs2:List Int) (lasts2:List Int):Option Y11:=
 chk (inB best1 costs2.length)<|
 (Q166 N c3 best1 j2).bind fun r2=>
 chk (fitB (costs2.length+1) 8)<|
 chk (fitB (lasts2.length+1) 8)<|
 kx (iadd .i64 j2 1) c3 (costs2++[iadd .i64 (gd costs2 best1.toNat 0) r2.1]) (lasts2++[best1])
def Q162_B1 (N:Nat) (kx:Int→Y0→(List Int)→(List Int)→Option Y11) (kx1:Int→Int→Int→Y0→(List Int)→(List Int)→Option Y11) (j1:Int) (best:Int) (i:Int) (c2:(List Int)×(List Int)×(List Int)×(List Int)) (costs1:List Int) (lasts1:List Int):Option Y11:=
 bif ilt i j1 then
  chk (inB i costs1.length)<|
  (Q166 N c2 i j1).bind fun r=>
  chk (inB best costs1.length)<|
  (Q166 N c2 best j1).bind fun r1=>
  bif ile (iadd .i64 (gd costs1 i.toNat 0) r.1) (iadd .i64 (gd costs1 best.toNat 0) r1.1) then
   kx1 j1 i (iadd .i64 i 1) c2 costs1 lasts1
  else
   kx1 j1 best (iadd .i64 i 1) c2 costs1 lasts1
 else
  Q162_K1 N kx j1 best c2 costs1 lasts1
def Q162_L1 (N fu_:Nat) (kx:Int→Y0→(List Int)→(List Int)→Option Y11):=it_3_3 (Q162_B1 N kx) fu_
def Q162_L1_run (N:Nat) (kx:Int→Y0→(List Int)→(List Int)→Option Y11):=run6 (Q162_B1 N kx) (fun u_=>Q162_L1 N u_ kx) (fun _ _ _ _ _ _ _=>rfl)
def Q162_K2 (N:Nat) (costs3:List Int) (lasts3:List Int):Option Y11:=
 some ((costs3,lasts3),())
def Q162_B2 (N:Nat) (kx:Int→Y0→(List Int)→(List Int)→Option Y11) (j:Int) (c1:(List Int)×(List Int)×(List Int)×(List Int)) (costs:List Int) (lasts:List Int):Option Y11:=
 bif ile j (len c1.1) then
  Q162_L1 N N kx j 0 1 c1 costs lasts
 else
  Q162_K2 N costs lasts
def Q162_L2 (N fu_:Nat):=it_1_3 (Q162_B2 N) fu_
def Q162_L2_run (N:Nat):=run4 (Q162_B2 N) (Q162_L2 N) (fun _ _ _ _ _=>rfl)
def Q162 (N:Nat) (c:(List Int)×(List Int)×(List Int)×(List Int)):Option Y11:=
 Q162_L2 N N 1 c [0] []
def Q101 (N:Nat) (c:(List Int)×(List Int)×(List Int)×(List Int)):Option Y2:=
 (Q152 N c).bind fun r=>
 bif !r.1 then
  some (([],false),())
 else
  (Q162 N c).bind fun r1=>
  some ((r1.1.1,true),())
def Q159_K1 (N:Nat) (kx:Int→Int→Y0→(List Int)→Option Y1) (n2:Int) (i2:Int) (c3:(List Int)×(List Int)×(List Int)×(List Int)) (out2:List Int):Option Y1:=
 kx n2 (isub .i64 i2 1) c3 out2
def Q159_B1 (N:Nat) (kx:Int→Int→Y0→(List Int)→Option Y1) (kx1:Int→Int→Int→Y0→(List Int)→Option Y1) (n1:Int) (i1:Int) (j:Int) (c2:(List Int)×(List Int)×(List Int)×(List Int)) (out1:List Int):Option Y1:=
 bif ilt j n1 then
  chk (inB i1 out1.length)<|
  (Q166 N c2 i1 j).bind fun r1=>
  chk (inB j out1.length)<|
  (Q137 N (gd out1 i1.toNat 0) (iadd .i64 r1.1 (gd out1 j.toNat 0))).bind fun r2=>
  chk (inB i1 out1.length)<|
  kx1 n1 i1 (iadd .i64 j 1) c2 (List.set out1 i1.toNat r2.1)
 else
  Q159_K1 N kx n1 i1 c2 out1
def Q159_L1 (N fu_:Nat) (kx:Int→Int→Y0→(List Int)→Option Y1):=it_3_2 (Q159_B1 N kx) fu_
def Q159_L1_run (N:Nat) (kx:Int→Int→Y0→(List Int)→Option Y1):=run5 (Q159_B1 N kx) (fun u_=>Q159_L1 N u_ kx) (fun _ _ _ _ _ _=>rfl)
def Q159_K2 (N:Nat) (out3:List Int):Option Y1:=
 some (out3,())
def Q159_B2 (N:Nat) (kx:Int→Int→Y0→(List Int)→Option Y1) (n:Int) (i:Int) (c1:(List Int)×(List Int)×(List Int)×(List Int)) (out:List Int):Option Y1:=
 bif ile 0 i then
  (Q166 N c1 i n).bind fun r=>
  chk (inB i out.length)<|
  Q159_L1 N N kx n i (iadd .i64 i 1) c1 (List.set out i.toNat r.1)
 else
  Q159_K2 N out
def Q159_L2 (N fu_:Nat):=it_2_2 (Q159_B2 N) fu_
def Q159_L2_run (N:Nat):=run4 (Q159_B2 N) (Q159_L2 N) (fun _ _ _ _ _=>rfl)
def Q159 (N:Nat) (c:(List Int)×(List Int)×(List Int)×(List Int)):Option Y1:=
 chk (mkB (iadd .i64 (len c.1) 1) 8)<|
 Q159_L2 N N (len c.1) (isub .i64 (len c.1) 1) c (List.replicate (iadd .i64 (len c.1) 1).toNat 0)
def Q107_K1 (N:Nat) (out1:List Int):Option Y2:=
 some ((out1,true),())
def Q107_B1 (N:Nat) (kx:Int→(List Int)→((List Int)×(List Int))→(List Int)→Option Y2) (i:Int) (out:List Int) (b16:(List Int)×(List Int)) (back:List Int):Option Y2:=
 bif ilt i (len b16.1) then
  chk (inB i b16.1.length)<|
  chk (inB i back.length)<|
  chk (inB 0 back.length)<|
  bif ieq (iadd .i64 (gd b16.1 i.toNat 0) (gd back i.toNat 0)) (gd back 0 0) then
   chk (fitB (out.length+1) 8)<|
   kx (iadd .i64 i 1) (out++[i]) b16 back
  else
   kx (iadd .i64 i 1) out b16 back
 else
  Q107_K1 N out
def Q107_L1 (N fu_:Nat):=it_1_3 (Q107_B1 N) fu_
def Q107_L1_run (N:Nat):=run4 (Q107_B1 N) (Q107_L1 N) (fun _ _ _ _ _=>rfl)
def Q107 (N:Nat) (c:(List Int)×(List Int)×(List Int)×(List Int)):Option Y2:=
 (Q152 N c).bind fun r=>
 bif !r.1 then
  some (([],false),())
 else
  (Q162 N c).bind fun r1=>
  (Q159 N c).bind fun r2=>
  Q107_L1 N N 0 [] r1.1 r2.1
def Q102_K1 (N:Nat) (out1:List Int):Option Y2:=
 some ((out1,true),())
def Q102_B1 (N:Nat) (kx:Int→Y0→(List Int)→((List Int)×(List Int))→Option Y2) (h:Int) (c1:(List Int)×(List Int)×(List Int)×(List Int)) (out:List Int) (b15:(List Int)×(List Int)):Option Y2:=
 bif ile h (len b15.2) then
  chk (inB (isub .i64 h 1) b15.2.length)<|
  bif ieq (gd b15.2 (isub .i64 h 1).toNat 0) (isub .i64 h 1) then
   chk (inB (isub .i64 h 1) c1.1.length)<|
   bif ilt 0 (gd c1.1 (isub .i64 h 1).toNat 0) then
    chk (fitB (out.length+1) 8)<|
    kx (iadd .i64 h 1) c1 (out++[h]) b15
   else
    kx (iadd .i64 h 1) c1 out b15
  else
   kx (iadd .i64 h 1) c1 out b15
 else
  Q102_K1 N out
def Q102_L1 (N fu_:Nat):=it_1_3 (Q102_B1 N) fu_
def Q102_L1_run (N:Nat):=run4 (Q102_B1 N) (Q102_L1 N) (fun _ _ _ _ _=>rfl)
def Q102 (N:Nat) (c:(List Int)×(List Int)×(List Int)×(List Int)):Option Y2:=
 (Q152 N c).bind fun r=>
 bif !r.1 then
  some (([],false),())
 else
  (Q162 N c).bind fun r1=>
  Q102_L1 N N 1 c [] r1.1
def Q138 (N:Nat) (a:Int) (b:Int):Option Y4:=
 bif ilt b a then
  some (a,())
 else
  some (b,())
def Q161_K1 (N:Nat) (sum1:Int):Option Y4:=
 some (sum1,())
def Q161_B1 (N:Nat) (kx:(List Int)→Int→Int→Int→Y0→Option Y4) (prices1:List Int) (i1:Int) (sum:Int) (t:Int) (c1:(List Int)×(List Int)×(List Int)×(List Int)):Option Y4:=
 bif ilt t (len prices1) then
  chk (inB t prices1.length)<|
  chk (inB t c1.1.length)<|
  (Q164 N c1 i1 t).bind fun r=>
  (Q138 N 0 (isub .i64 (gd prices1 t.toNat 0) (imul .i64 (gd c1.1 t.toNat 0) r.1))).bind fun r1=>
  kx prices1 i1 (iadd .i64 sum r1.1) (iadd .i64 t 1) c1
 else
  Q161_K1 N sum
def Q161_L1 (N fu_:Nat):=it_4_1 (Q161_B1 N) fu_
def Q161_L1_run (N:Nat):=run5 (Q161_B1 N) (Q161_L1 N) (fun _ _ _ _ _ _=>rfl)
def Q161 (N:Nat) (c:(List Int)×(List Int)×(List Int)×(List Int)) (prices:List Int) (i:Int):Option Y4:=
 Q161_L1 N N prices i 0 i c
def Q160_K1 (N:Nat) (kx:Int→Y0→(List Int)→Option Y1) (t2:Int) (least1:Int) (c3:(List Int)×(List Int)×(List Int)×(List Int)) (out2:List Int):Option Y1:=
 chk (fitB (out2.length+1) 8)<|
 kx (iadd .i64 t2 1) c3 (out2++[least1])
def Q160_B1 (N:Nat) (kx:Int→Y0→(List Int)→Option Y1) (kx1:Int→Int→Int→Y0→(List Int)→Option Y1) (t1:Int) (least:Int) (i:Int) (c2:(List Int)×(List Int)×(List Int)×(List Int)) (out1:List Int):Option Y1:=
 bif ile i t1 then
  chk (inB t1 c2.1.length)<|
  bif ilt 0 (gd c2.1 t1.toNat 0) then
   chk (inB t1 c2.1.length)<|
   (Q164 N c2 i t1).bind fun r=>
   chk (inB i c2.2.1.length)<|
   (Q161 N c2 out1 i).bind fun r1=>
   bif ieq i 0 then
    kx1 t1 (isub .i64 (iadd .i64 (imul .i64 (gd c2.1 t1.toNat 0) r.1) (gd c2.2.1 i.toNat 0)) r1.1) (iadd .i64 i 1) c2 out1
   else
    bif ilt (isub .i64 (iadd .i64 (imul .i64 (gd c2.1 t1.toNat 0) r.1) (gd c2.2.1 i.toNat 0)) r1.1) least then
     kx1 t1 (isub .i64 (iadd .i64 (imul .i64 (gd c2.1 t1.toNat 0) r.1) (gd c2.2.1 i.toNat 0)) r1.1) (iadd .i64 i 1) c2 out1
    else
     kx1 t1 least (iadd .i64 i 1) c2 out1
  else
   Q160_K1 N kx t1 least c2 out1
 else
  Q160_K1 N kx t1 least c2 out1
def Q160_L1 (N fu_:Nat) (kx:Int→Y0→(List Int)→Option Y1):=it_3_2 (Q160_B1 N kx) fu_
def Q160_L1_run (N:Nat) (kx:Int→Y0→(List Int)→Option Y1):=run5 (Q160_B1 N kx) (fun u_=>Q160_L1 N u_ kx) (fun _ _ _ _ _ _=>rfl)
def Q160_K2 (N:Nat) (out3:List Int):Option Y1:=
 some (out3,())
def Q160_B2 (N:Nat) (kx:Int→Y0→(List Int)→Option Y1) (t:Int) (c1:(List Int)×(List Int)×(List Int)×(List Int)) (out:List Int):Option Y1:=
 bif ilt t (len c1.1) then
  Q160_L1 N N kx t 0 0 c1 out
 else
  Q160_K2 N out
def Q160_L2 (N fu_:Nat):=it_1_2 (Q160_B2 N) fu_
def Q160_L2_run (N:Nat):=run3 (Q160_B2 N) (Q160_L2 N) (fun _ _ _ _=>rfl)
def Q160 (N:Nat) (c:(List Int)×(List Int)×(List Int)×(List Int)):Option Y1:=
 Q160_L2 N N 0 c []
def Q100 (N:Nat) (c:(List Int)×(List Int)×(List Int)×(List Int)):Option Y2:=
 (Q152 N c).bind fun r=>
 bif !r.1 then
  some (([],false),())
 else
  (Q160 N c).bind fun r1=>
  some ((r1.1,true),())
def Q133 (N:Nat) (l:Y0×(List Int)×Int) (line:ByteArray):Option Y8:=
 bif Go.Rx.seq line (⟨#[110,111,119]⟩:ByteArray) then
  (Q139 N l.2.2).bind fun r=>
  some (r.1,())
 else
  bif Go.Rx.seq line (⟨#[115,116,111,99,107]⟩:ByteArray) then
   (Q132 N l l.2.2).bind fun r1=>
   (Q139 N r1.1).bind fun r2=>
   some (r2.1,())
  else
   bif Go.Rx.seq line (⟨#[99,111,115,116]⟩:ByteArray) then
    (Q111 N l 0 l.2.2).bind fun r3=>
    (Q139 N r3.1).bind fun r4=>
    some (r4.1,())
   else
    bif Go.Rx.seq line (⟨#[97,104,101,97,100]⟩:ByteArray) then
     (Q98 N l).bind fun r5=>
     (Q130 N r5.1.1 r5.1.2).bind fun r6=>
     some (r6.1,())
    else
     bif Go.Rx.seq line (⟨#[115,104,111,114,116]⟩:ByteArray) then
      (Q131 N l).bind fun r7=>
      (Q123 N r7.1).bind fun r8=>
      some (r8.1,())
     else
      bif Go.Rx.seq line (⟨#[108,101,102,116]⟩:ByteArray) then
       (Q118 N l).bind fun r9=>
       (Q123 N r9.1).bind fun r10=>
       some (r10.1,())
      else
       bif Go.Rx.seq line (⟨#[112,108,97,110]⟩:ByteArray) then
        (Q123 N l.2.1).bind fun r11=>
        some (r11.1,())
       else
        bif Go.Rx.seq line (⟨#[99,97,115,101]⟩:ByteArray) then
         (Q158 N l.1).bind fun r12=>
         some (r12.1,())
        else
         bif Go.Rx.seq line (⟨#[98,101,115,116]⟩:ByteArray) then
          (Q96 N l.1).bind fun r13=>
          (Q130 N r13.1.1 r13.1.2).bind fun r14=>
          some (r14.1,())
         else
          bif Go.Rx.seq line (⟨#[116,97,98,108,101]⟩:ByteArray) then
           (Q101 N l.1).bind fun r15=>
           (Q120 N r15.1.1 r15.1.2).bind fun r16=>
           some (r16.1,())
          else
           bif Go.Rx.seq line (⟨#[116,117,114,110,115]⟩:ByteArray) then
            (Q107 N l.1).bind fun r17=>
            (Q120 N r17.1.1 r17.1.2).bind fun r18=>
            some (r18.1,())
           else
            bif Go.Rx.seq line (⟨#[104,111,114,105,122,111,110,115]⟩:ByteArray) then
             (Q102 N l.1).bind fun r19=>
             (Q120 N r19.1.1 r19.1.2).bind fun r20=>
             some (r20.1,())
            else
             bif Go.Rx.seq line (⟨#[112,114,105,99,101,115]⟩:ByteArray) then
              (Q100 N l.1).bind fun r21=>
              (Q120 N r21.1.1 r21.1.2).bind fun r22=>
              some (r22.1,())
             else
              some ((⟨#[63]⟩:ByteArray),())
def Q135 (N:Nat) (l:Y0×(List Int)×Int) (line:ByteArray):Option Y15:=
 bif Go.Rx.seq line (⟨#[115,116,101,112]⟩:ByteArray) then
  (Q114 N l (4,(0,(0,(0,0))))).bind fun r=>
  some ((r.1.1,r.1.2),())
 else
  bif Go.Rx.seq line (⟨#[114,101,112,108,97,110]⟩:ByteArray) then
   (Q114 N l (5,(0,(0,(0,0))))).bind fun r1=>
   some ((r1.1.1,r1.1.2),())
  else
   bif Go.Rx.seq line (⟨#[99,108,101,97,114]⟩:ByteArray) then
    (Q114 N l (6,(0,(0,(0,0))))).bind fun r2=>
    some ((r2.1.1,r2.1.2),())
   else
    (Q133 N l line).bind fun r3=>
    some ((l,r3.1),())
def Q141_K1 (N:Nat) (s4:ByteArray) (t3:ByteArray) (n1:Int):Option Y7:=
 bif ilt (slen t3) (slen s4) then
  (Q139 N (isub .i64 0 n1)).bind fun r1=>
  bif !(Go.Rx.seq r1.1 s4) then
   some ((0,false),())
  else
   some ((isub .i64 0 n1,true),())
 else
  (Q139 N n1).bind fun r2=>
  bif !(Go.Rx.seq r2.1 s4) then
   some ((0,false),())
  else
   some ((n1,true),())
def Q141_B1 (N:Nat) (kx:ByteArray→ByteArray→Int→Int→Option Y7) (s3:ByteArray) (t2:ByteArray) (n:Int) (i:Int):Option Y7:=
 bif ilt i (slen t2) then
  chk (inB i t2.size)<|
  bif ilt (sbyte t2 i) 48 then
   some ((0,false),())
  else
   chk (inB i t2.size)<|
   bif ilt 57 (sbyte t2 i) then
    some ((0,false),())
   else
    chk (inB i t2.size)<|
    kx s3 t2 (iadd .i64 (imul .i64 10 n) (icv .i64 (isub .u8 (sbyte t2 i) 48))) (iadd .i64 i 1)
 else
  Q141_K1 N s3 t2 n
def Q141_L1 (N fu_:Nat):=it_4_0 (Q141_B1 N) fu_
def Q141_L1_run (N:Nat):=run4 (Q141_B1 N) (Q141_L1 N) (fun _ _ _ _ _=>rfl)
def Q141_K2 (N:Nat) (s2:ByteArray) (t1:ByteArray):Option Y7:=
 (Q136 N (slen t1) 1 6).bind fun r=>
 bif !r.1 then
  some ((0,false),())
 else
  Q141_L1 N N s2 t1 0 0
def Q141_K3 (N:Nat) (s1:ByteArray) (t:ByteArray) (v15:Bool):Option Y7:=
 bif v15 then
  chk (cutB 1 (slen t) t.size)<|
  Q141_K2 N s1 (scut t 1 (slen t))
 else
  Q141_K2 N s1 t
def Q141 (N:Nat) (s:ByteArray):Option Y7:=
 bif ilt 1 (slen s) then
  chk (inB 0 s.size)<|
  Q141_K3 N s s (ieq (sbyte s 0) 45)
 else
  Q141_K3 N s s false
def Q128_K1 (N:Nat) (out1:List Int):Option Y2:=
 some ((out1,true),())
def Q128_B1 (N:Nat) (kx:Y9→Int→(List Int)→Option Y2) (words1:List ByteArray) (i:Int) (out:List Int):Option Y2:=
 bif ilt i (len words1) then
  chk (inB i words1.length)<|
  (Q141 N (gd words1 i.toNat (⟨#[]⟩:ByteArray))).bind fun r=>
  bif !r.1.2 then
   some (([],false),())
  else
   chk (fitB (out.length+1) 8)<|
   kx words1 (iadd .i64 i 1) (out++[r.1.1])
 else
  Q128_K1 N out
def Q128_L1 (N fu_:Nat):=it_2_1 (Q128_B1 N) fu_
def Q128_L1_run (N:Nat):=run3 (Q128_B1 N) (Q128_L1 N) (fun _ _ _ _=>rfl)
def Q128 (N:Nat) (words:List ByteArray):Option Y2:=
 Q128_L1 N N words 1 []
def Q163 (N:Nat) (c:(List Int)×(List Int)×(List Int)×(List Int)) (rule:Int) (i:Int) (j:Int):Option Y5:=
 (Q166 N c i j).bind fun r=>
 (Q166 N c i (iadd .i64 j 1)).bind fun r1=>
 chk (cutB i j c.1.length)<|
 (Q157 N (cut c.1 i j)).bind fun r2=>
 chk (cutB i (iadd .i64 j 1) c.1.length)<|
 (Q157 N (cut c.1 i (iadd .i64 j 1))).bind fun r3=>
 bif ieq rule 1 then
  some (ilt (imul .i64 r.1 (isub .i64 (iadd .i64 j 1) i)) (imul .i64 r1.1 (isub .i64 j i)),())
 else
  bif ieq rule 2 then
   some (ilt (imul .i64 r.1 r3.1) (imul .i64 r1.1 r2.1),())
  else
   chk (inB i c.2.1.length)<|
   chk (inB i c.2.2.1.length)<|
   chk (inB i c.2.1.length)<|
   some (ilt (gd c.2.1 i.toNat 0) (isub .i64 (isub .i64 r1.1 (gd c.2.1 i.toNat 0)) (imul .i64 (gd c.2.2.1 i.toNat 0) r3.1)),())
def Q165_K1 (N:Nat) (kx:Int→Int→Int→Y0→(List Int)→Option Y1) (rule3:Int) (n2:Int) (i2:Int) (j1:Int) (c3:(List Int)×(List Int)×(List Int)×(List Int)) (out2:List Int):Option Y1:=
 chk (fitB (out2.length+1) 8)<|
 kx rule3 n2 j1 c3 (out2++[i2])
def Q165_B1 (N:Nat) (kx:Int→Int→Int→Y0→(List Int)→Option Y1) (kx1:Int→Int→Int→Int→Y0→(List Int)→Option Y1) (rule2:Int) (n1:Int) (i1:Int) (j:Int) (c2:(List Int)×(List Int)×(List Int)×(List Int)) (out1:List Int):Option Y1:=
 bif ilt j n1 then
  (Q163 N c2 rule2 i1 j).bind fun r=>
  bif !r.1 then
   kx1 rule2 n1 i1 (iadd .i64 j 1) c2 out1
  else
   Q165_K1 N kx rule2 n1 i1 j c2 out1
 else
  Q165_K1 N kx rule2 n1 i1 j c2 out1
def Q165_L1 (N fu_:Nat) (kx:Int→Int→Int→Y0→(List Int)→Option Y1):=it_4_2 (Q165_B1 N kx) fu_
def Q165_L1_run (N:Nat) (kx:Int→Int→Int→Y0→(List Int)→Option Y1):=run6 (Q165_B1 N kx) (fun u_=>Q165_L1 N u_ kx) (fun _ _ _ _ _ _ _=>rfl)
def Q165_K2 (N:Nat) (out3:List Int):Option Y1:=
 some (out3,())
def Q165_B2 (N:Nat) (kx:Int→Int→Int→Y0→(List Int)→Option Y1) (rule1:Int) (n:Int) (i:Int) (c1:(List Int)×(List Int)×(List Int)×(List Int)) (out:List Int):Option Y1:=
 bif ilt i n then
  chk (inB i c1.1.length)<|
  bif ieq (gd c1.1 i.toNat 0) 0 then
   kx rule1 n (iadd .i64 i 1) c1 out
  else
   Q165_L1 N N kx rule1 n i (iadd .i64 i 1) c1 out
 else
  Q165_K2 N out
def Q165_L2 (N fu_:Nat):=it_3_2 (Q165_B2 N) fu_
theorem Q165_L2_succ (N fu_:Nat) (rule1:Int) (n:Int) (i:Int) (c1:(List Int)×(List Int)×(List Int)×(List Int)) (out:List Int):Q165_L2 N (fu_+1) rule1 n i c1 out=Q165_B2 N (fun rule1 n i c1 out=>Q165_L2 N fu_ rule1 n i c1 out) rule1 n i c1 out:=rfl
def Q165 (N:Nat) (c:(List Int)×(List Int)×(List Int)×(List Int)) (rule:Int):Option Y1:=
 Q165_L2 N N rule (len c.1) 0 c []
def Q105 (N:Nat) (c:(List Int)×(List Int)×(List Int)×(List Int)) (rule:Int):Option Y2:=
 (Q152 N c).bind fun r=>
 bif !r.1 then
  some (([],false),())
 else
  (Q136 N rule 1 3).bind fun r1=>
  bif !r1.1 then
   some (([],false),())
  else
   (Q165 N c rule).bind fun r2=>
   some ((r2.1,true),())
def Q104 (N:Nat) (c:(List Int)×(List Int)×(List Int)×(List Int)) (rule:Int):Option Y7:=
 (Q152 N c).bind fun r=>
 bif !r.1 then
  some ((0,false),())
 else
  (Q136 N rule 1 3).bind fun r1=>
  bif !r1.1 then
   some ((0,false),())
  else
   (Q165 N c rule).bind fun r2=>
   (Q151 N c r2.1).bind fun r3=>
   (Q149 N c r3.1).bind fun r4=>
   (Q159 N c).bind fun r5=>
   chk (inB 0 r5.1.length)<|
   some ((isub .i64 r4.1 (gd r5.1 0 0),true),())
def Q169 (N:Nat) (c:(List Int)×(List Int)×(List Int)×(List Int)) (life:Int):Option Y5:=
 (Q152 N c).bind fun r=>
 bif r.1 then
  (Q136 N life 1 8).bind fun r1=>
  some (r1.1,())
 else
  some (false,())
def Q170_K1 (N:Nat) (best1:Int):Option Y4:=
 some (best1,())
def Q170_B1 (N:Nat) (kx:Int→(List Int)→Int→Int→Int→Y0→Option Y4) (life1:Int) (periods1:List Int) (t1:Int) (best:Int) (i:Int) (c1:(List Int)×(List Int)×(List Int)×(List Int)):Option Y4:=
 bif ilt i (len periods1) then
  chk (inB i periods1.length)<|
  bif ile (gd periods1 i.toNat 0) t1 then
   bif ilt t1 (iadd .i64 (gd periods1 i.toNat 0) life1) then
    (Q164 N c1 (gd periods1 i.toNat 0) t1).bind fun r=>
    bif ilt best 0 then
     kx life1 periods1 t1 r.1 (iadd .i64 i 1) c1
    else
     bif ilt r.1 best then
      kx life1 periods1 t1 r.1 (iadd .i64 i 1) c1
     else
      kx life1 periods1 t1 best (iadd .i64 i 1) c1
   else
    kx life1 periods1 t1 best (iadd .i64 i 1) c1
  else
   kx life1 periods1 t1 best (iadd .i64 i 1) c1
 else
  Q170_K1 N best
def Q170_L1 (N fu_:Nat):=it_5_1 (Q170_B1 N) fu_
def Q170_L1_run (N:Nat):=run6 (Q170_B1 N) (Q170_L1 N) (fun _ _ _ _ _ _ _=>rfl)
def Q170 (N:Nat) (c:(List Int)×(List Int)×(List Int)×(List Int)) (life:Int) (periods:List Int) (t:Int):Option Y4:=
 Q170_L1 N N life periods t (-1) 0 c
def Q168_K1 (N:Nat) (kx1:Int→(List Int)→Int→Int→Y0→Option Y4) (life4:Int) (periods4:List Int) (sum3:Int) (t1:Int) (rate:Int) (v48:Bool) (c4:(List Int)×(List Int)×(List Int)×(List Int)):Option Y4:=
 bif v48 then
  some ((-1),())
 else
  chk (inB t1 c4.1.length)<|
  bif ilt 0 (gd c4.1 t1.toNat 0) then
   chk (inB t1 c4.1.length)<|
   kx1 life4 periods4 (iadd .i64 sum3 (imul .i64 (gd c4.1 t1.toNat 0) rate)) (iadd .i64 t1 1) c4
  else
   kx1 life4 periods4 sum3 (iadd .i64 t1 1) c4
def Q168_K2 (N:Nat) (sum4:Int):Option Y4:=
 some (sum4,())
def Q168_B1 (N:Nat) (kx1:Int→(List Int)→Int→Int→Y0→Option Y4) (life3:Int) (periods3:List Int) (sum2:Int) (t:Int) (c3:(List Int)×(List Int)×(List Int)×(List Int)):Option Y4:=
 bif ilt t (len c3.1) then
  (Q170 N c3 life3 periods3 t).bind fun r=>
  chk (inB t c3.1.length)<|
  bif ilt 0 (gd c3.1 t.toNat 0) then
   Q168_K1 N kx1 life3 periods3 sum2 t r.1 (ilt r.1 0) c3
  else
   Q168_K1 N kx1 life3 periods3 sum2 t r.1 false c3
 else
  Q168_K2 N sum2
def Q168_L1 (N fu_:Nat):=it_4_1 (Q168_B1 N) fu_
def Q168_L1_run (N:Nat):=run5 (Q168_B1 N) (Q168_L1 N) (fun _ _ _ _ _ _=>rfl)
def Q168_K3 (N:Nat) (life2:Int) (periods2:List Int) (sum1:Int) (c2:(List Int)×(List Int)×(List Int)×(List Int)):Option Y4:=
 Q168_L1 N N life2 periods2 sum1 0 c2
def Q168_B2 (N:Nat) (kx:Int→(List Int)→Int→Int→Y0→Option Y4) (life1:Int) (periods1:List Int) (sum:Int) (i:Int) (c1:(List Int)×(List Int)×(List Int)×(List Int)):Option Y4:=
 bif ilt i (len periods1) then
  chk (inB i periods1.length)<|
  chk (inB (gd periods1 i.toNat 0) c1.2.1.length)<|
  kx life1 periods1 (iadd .i64 sum (gd c1.2.1 (gd periods1 i.toNat 0).toNat 0)) (iadd .i64 i 1) c1
 else
  Q168_K3 N life1 periods1 sum c1
def Q168_L2 (N fu_:Nat):=it_4_1 (Q168_B2 N) fu_
def Q168_L2_run (N:Nat):=run5 (Q168_B2 N) (Q168_L2 N) (fun _ _ _ _ _ _=>rfl)
def Q168 (N:Nat) (c:(List Int)×(List Int)×(List Int)×(List Int)) (life:Int) (periods:List Int):Option Y4:=
 Q168_L2 N N life periods 0 0 c
def Q167_K1 (N:Nat) (least1:Int) (best1:List Int):Option Y6:=
 some ((best1,least1),())
def Q167_B1 (N:Nat) (kx:Int→Int→Int→Y0→(List Int)→Option Y6) (life1:Int) (least:Int) (code:Int) (c1:(List Int)×(List Int)×(List Int)×(List Int)) (best:List Int):Option Y6:=
 chk (ile 0 (len c1.1))<|
 bif ilt code (ishl .i64 1 (len c1.1)) then
  (Q148 N (len c1.1) code).bind fun r=>
  (Q168 N c1 life1 r.1).bind fun r1=>
  bif ile 0 r1.1 then
   bif ilt least 0 then
    kx life1 r1.1 (iadd .i64 code 1) c1 r.1
   else
    bif ilt r1.1 least then
     kx life1 r1.1 (iadd .i64 code 1) c1 r.1
    else
     bif ieq r1.1 least then
      (Q146 N r.1 best).bind fun r2=>
      bif r2.1 then
       kx life1 r1.1 (iadd .i64 code 1) c1 r.1
      else
       kx life1 least (iadd .i64 code 1) c1 best
     else
      kx life1 least (iadd .i64 code 1) c1 best
  else
   kx life1 least (iadd .i64 code 1) c1 best
 else
  Q167_K1 N least best
def Q167_L1 (N fu_:Nat):=it_3_2 (Q167_B1 N) fu_
def Q167_L1_run (N:Nat):=run5 (Q167_B1 N) (Q167_L1 N) (fun _ _ _ _ _ _=>rfl)
def Q167 (N:Nat) (c:(List Int)×(List Int)×(List Int)×(List Int)) (life:Int):Option Y6:=
 Q167_L1 N N life (-1) 0 c []
def Q97 (N:Nat) (c:(List Int)×(List Int)×(List Int)×(List Int)) (life:Int):Option (((List Int)×Int×Bool)×Unit):=
 (Q169 N c life).bind fun r=>
 bif !r.1 then
  some (([],(0,false)),())
 else
  (Q167 N c life).bind fun r1=>
  some ((r1.1.1,(r1.1.2,true)),())
def Q116 (N:Nat) (l:Y0×(List Int)×Int) (life:Int):Option Y8:=
 (Q97 N l.1 life).bind fun r=>
 (Q130 N r.1.2.1 r.1.2.2).bind fun r1=>
 some (r1.1,())
def Q124 (N:Nat) (l:Y0×(List Int)×Int) (word:ByteArray) (n:Int):Option Y8:=
 bif Go.Rx.seq word (⟨#[114,117,108,101]⟩:ByteArray) then
  (Q105 N l.1 n).bind fun r=>
  (Q120 N r.1.1 r.1.2).bind fun r1=>
  some (r1.1,())
 else
  bif Go.Rx.seq word (⟨#[103,97,112]⟩:ByteArray) then
   (Q104 N l.1 n).bind fun r2=>
   (Q130 N r2.1.1 r2.1.2).bind fun r3=>
   some (r3.1,())
  else
   bif Go.Rx.seq word (⟨#[102,114,101,115,104]⟩:ByteArray) then
    (Q116 N l n).bind fun r4=>
    some (r4.1,())
   else
    some ((⟨#[63]⟩:ByteArray),())
def Q115 (N:Nat) (l:Y0×(List Int)×Int) (line:ByteArray):Option Y15:=
 (Q143 N line 32).bind fun r=>
 bif ieq (len r.1) 1 then
  (Q135 N l line).bind fun r1=>
  some ((r1.1.1,r1.1.2),())
 else
  (Q128 N r.1).bind fun r2=>
  bif !r2.1.2 then
   some ((l,(⟨#[63]⟩:ByteArray)),())
  else
   bif ieq (len r2.1.1) 1 then
    chk (inB 0 r.1.length)<|
    chk (inB 0 r2.1.1.length)<|
    (Q124 N l (gd r.1 0 (⟨#[]⟩:ByteArray)) (gd r2.1.1 0 0)).bind fun r3=>
    some ((l,r3.1),())
   else
    bif ieq (len r2.1.1) 2 then
     chk (inB 0 r.1.length)<|
     bif Go.Rx.seq (gd r.1 0 (⟨#[]⟩:ByteArray)) (⟨#[110,101,101,100]⟩:ByteArray) then
      chk (inB 0 r2.1.1.length)<|
      chk (inB 1 r2.1.1.length)<|
      (Q114 N l (2,(gd r2.1.1 0 0,(gd r2.1.1 1 0,(0,0))))).bind fun r4=>
      some ((r4.1.1,r4.1.2),())
     else
      chk (inB 0 r.1.length)<|
      bif Go.Rx.seq (gd r.1 0 (⟨#[]⟩:ByteArray)) (⟨#[111,114,100,101,114]⟩:ByteArray) then
       chk (inB 0 r2.1.1.length)<|
       chk (inB 1 r2.1.1.length)<|
       (Q114 N l (3,(gd r2.1.1 0 0,(gd r2.1.1 1 0,(0,0))))).bind fun r5=>
       some ((r5.1.1,r5.1.2),())
      else
       some ((l,(⟨#[63]⟩:ByteArray)),())
    else
     bif ieq (len r2.1.1) 4 then
      chk (inB 0 r.1.length)<|
      bif Go.Rx.seq (gd r.1 0 (⟨#[]⟩:ByteArray)) (⟨#[112,101,114,105,111,100]⟩:ByteArray) then
       chk (inB 0 r2.1.1.length)<|
       chk (inB 1 r2.1.1.length)<|
       chk (inB 2 r2.1.1.length)<|
       chk (inB 3 r2.1.1.length)<|
       (Q114 N l (1,(gd r2.1.1 0 0,(gd r2.1.1 1 0,(gd r2.1.1 2 0,gd r2.1.1 3 0))))).bind fun r6=>
       some ((r6.1.1,r6.1.2),())
      else
       some ((l,(⟨#[63]⟩:ByteArray)),())
     else
      some ((l,(⟨#[63]⟩:ByteArray)),())
def Q95 (N:Nat) (l:ByteArray×ByteArray×Int) (e:ByteArray×ByteArray):Option (((ByteArray×ByteArray×Int)×Int)×Unit):=
 (Q134 N l).bind fun r=>
 bif !r.1 then
  some ((l,1),())
 else
  (Q129 N e).bind fun r1=>
  bif !r1.1 then
   some ((l,1),())
  else
   bif ieq l.2.2 60 then
    some ((l,2),())
   else
    (Q119 N l.2.2 e).bind fun r2=>
    chk (sfit l.2.1 r2.1)<|
    some (((l.1,(scat l.2.1 r2.1,iadd .i64 l.2.2 1)),0),())
def Q99 (N:Nat) (c:Y3×ByteArray×ByteArray×Int) (line:ByteArray):Option ((Y14×ByteArray)×Unit):=
 (Q126 N c.1).bind fun r=>
 (Q103 N c).bind fun r1=>
 bif !r1.1 then
  some (((r.1,c.2),(⟨#[110,111]⟩:ByteArray)),())
 else
  (Q129 N (line,(⟨#[]⟩:ByteArray))).bind fun r2=>
  bif !r2.1 then
   some (((r.1,c.2),(⟨#[98,97,100]⟩:ByteArray)),())
  else
   bif ieq c.2.2.2 60 then
    some (((r.1,c.2),(⟨#[102,117,108,108]⟩:ByteArray)),())
   else
    (Q115 N c.1 line).bind fun r3=>
    (Q95 N c.2 (line,r3.1.2)).bind fun r4=>
    (Q126 N r3.1.1).bind fun r5=>
    some (((r5.1,r4.1.1),r3.1.2),())
def Q106_K1 (N:Nat) (out1:List ByteArray):Option Y16:=
 some ((out1,true),())
def Q106_B1 (N:Nat) (kx:Int→Y14→Y9→Y9→Option Y16) (i:Int) (c1:Y3×ByteArray×ByteArray×Int) (out:List ByteArray) (lines:List ByteArray):Option Y16:=
 bif ilt i (len lines) then
  chk (inB i lines.length)<|
  (Q99 N c1 (gd lines i.toNat (⟨#[]⟩:ByteArray))).bind fun r2=>
  chk (fitB (out.length+1) 16)<|
  kx (iadd .i64 i 1) r2.1.1 (out++[r2.1.2]) lines
 else
  Q106_K1 N out
def Q106_L1 (N fu_:Nat):=it_1_3 (Q106_B1 N) fu_
def Q106_L1_run (N:Nat):=run4 (Q106_B1 N) (Q106_L1 N) (fun _ _ _ _ _=>rfl)
def Q106 (N:Nat) (c:Y3×ByteArray×ByteArray×Int) (text:ByteArray):Option Y16:=
 (Q103 N c).bind fun r=>
 bif !r.1 then
  some (([],false),())
 else
  bif ilt 4000 (slen text) then
   some (([],false),())
  else
   (Q143 N text 10).bind fun r1=>
   bif ilt 30 (len r1.1) then
    some (([],false),())
   else
    Q106_L1 N N 0 c [] r1.1
def Q67 (N:Nat) (n:Int) (low:Int) (high:Int):Option Y5:=
 bif ile low n then
  some (ile n high,())
 else
  some (false,())
def Q51_K1 (N:Nat):Option Y5:=
 some (true,())
def Q51_B1 (N:Nat) (kx:Int→Int→(List Int)→Int→Int→Option Y5) (low1:Int) (high1:Int) (v9:List Int) (v10:Int) (v11:Int):Option Y5:=
 bif ilt v11 v10 then
  chk (inB v11 v9.length)<|
  (Q67 N (gd v9 v11.toNat 0) low1 high1).bind fun r=>
  bif !r.1 then
   some (false,())
  else
   kx low1 high1 v9 v10 (iadd .i64 v11 1)
 else
  Q51_K1 N
def Q51_L1 (N fu_:Nat):=it_5_0 (Q51_B1 N) fu_
def Q51_L1_run (N:Nat):=run5 (Q51_B1 N) (Q51_L1 N) (fun _ _ _ _ _ _=>rfl)
def Q51 (N:Nat) (list:List Int) (low:Int) (high:Int):Option Y5:=
 Q51_L1 N N low high list (len list) 0
def Q31 (N:Nat) (c:(List Int)×(List Int)×(List Int)×(List Int)):Option Y5:=
 bif ile (len c.1) 8 then
  bif ieq (len c.2.1) (len c.1) then
   bif ieq (len c.2.2.1) (len c.1) then
    bif ieq (len c.2.2.2) (len c.1) then
     (Q51 N c.1 0 20).bind fun r=>
     bif r.1 then
      (Q51 N c.2.1 0 99).bind fun r1=>
      bif r1.1 then
       (Q51 N c.2.2.1 0 9).bind fun r2=>
       bif r2.1 then
        (Q51 N c.2.2.2 0 9).bind fun r3=>
        some (r3.1,())
       else
        some (false,())
      else
       some (false,())
     else
      some (false,())
    else
     some (false,())
   else
    some (false,())
  else
   some (false,())
 else
  some (false,())
def Q66_K1 (N:Nat) (sum1:Int):Option Y4:=
 some (sum1,())
def Q66_B1 (N:Nat) (kx:Int→(List Int)→Int→Int→Option Y4) (sum:Int) (v6:List Int) (v7:Int) (v8:Int):Option Y4:=
 bif ilt v8 v7 then
  chk (inB v8 v6.length)<|
  kx (iadd .i64 sum (gd v6 v8.toNat 0)) v6 v7 (iadd .i64 v8 1)
 else
  Q66_K1 N sum
def Q66_L1 (N fu_:Nat):=it_4_0 (Q66_B1 N) fu_
def Q66_L1_run (N:Nat):=run4 (Q66_B1 N) (Q66_L1 N) (fun _ _ _ _ _=>rfl)
def Q66 (N:Nat) (list:List Int):Option Y4:=
 Q66_L1 N N 0 list (len list) 0
def Q40 (N:Nat) (l:Y0×(List Int)×Int) (n:Int):Option Y4:=
 chk (cutB 0 n l.2.1.length)<|
 (Q66 N (cut l.2.1 0 n)).bind fun r=>
 chk (cutB 0 n l.1.1.length)<|
 (Q66 N (cut l.1.1 0 n)).bind fun r1=>
 some (isub .i64 r.1 r1.1,())
def Q32_K1 (N:Nat):Option Y5:=
 some (true,())
def Q32_B1 (N:Nat) (kx:Int→Int→Y3→Option Y5) (v34:Int) (v35:Int) (l1:Y0×(List Int)×Int):Option Y5:=
 bif ilt v35 v34 then
  (Q40 N l1 (iadd .i64 v35 1)).bind fun r3=>
  bif ilt r3.1 0 then
   some (false,())
  else
   kx v34 (iadd .i64 v35 1) l1
 else
  Q32_K1 N
def Q32_L1 (N fu_:Nat):=it_2_1 (Q32_B1 N) fu_
def Q32_L1_run (N:Nat):=run3 (Q32_B1 N) (Q32_L1 N) (fun _ _ _ _=>rfl)
def Q32 (N:Nat) (l:Y0×(List Int)×Int):Option Y5:=
 (Q31 N l.1).bind fun r=>
 bif !r.1 then
  some (false,())
 else
  bif ine (len l.2.1) (len l.1.1) then
   some (false,())
  else
   (Q51 N l.2.1 0 200).bind fun r1=>
   bif !r1.1 then
    some (false,())
   else
    (Q67 N l.2.2 0 (len l.2.1)).bind fun r2=>
    bif !r2.1 then
     some (false,())
    else
     Q32_L1 N N l.2.2 0 l

def Q60_K1 (N:Nat) (s2:ByteArray) (most2:Int) (others2:ByteArray):Option Y5:=
 bif ile (slen s2) most2 then
  (strings_ContainsAny N s2 others2).bind fun r=>
  some (!r.1,())
 else
  some (false,())
def Q60_B1 (N:Nat) (kx:ByteArray→Int→ByteArray→Int→Int→Option Y5) (s1:ByteArray) (most1:Int) (others1:ByteArray) (v9:Int) (v10:Int):Option Y5:=
 bif ilt v10 v9 then
  chk (inB v10 s1.size)<|
  bif ilt (sbyte s1 v10) 32 then
   some (false,())
  else
   chk (inB v10 s1.size)<|
   bif ilt 126 (sbyte s1 v10) then
    some (false,())
   else
    kx s1 most1 others1 v9 (iadd .i64 v10 1)
 else
  Q60_K1 N s1 most1 others1
def Q60_L1 (N fu_:Nat):=it_5_0 (Q60_B1 N) fu_
def Q60_L1_run (N:Nat):=run5 (Q60_B1 N) (Q60_L1 N) (fun _ _ _ _ _ _=>rfl)
def Q60 (N:Nat) (s:ByteArray) (most:Int) (others:ByteArray):Option Y5:=
 Q60_L1 N N s most others (slen s) 0
def Q58 (N:Nat) (s:ByteArray):Option Y5:=
 bif !(Go.Rx.seq s (⟨#[]⟩:ByteArray)) then
  (Q60 N s 160 (⟨#[35,64]⟩:ByteArray)).bind fun r=>
  some (r.1,())
 else
  some (false,())
def Q35 (N:Nat) (e:ByteArray×ByteArray):Option Y5:=
 (Q58 N e.1).bind fun r=>
 bif r.1 then
  (Q60 N e.2 200 (⟨#[35]⟩:ByteArray)).bind fun r1=>
  some (r1.1,())
 else
  some (false,())


def Q54_K1 (N:Nat) (h1:Int):Option Y4:=
 some (h1,())
def Q54_B1 (N:Nat) (kx:ByteArray→Int→Int→Int→Option Y4) (s1:ByteArray) (h:Int) (v6:Int) (v7:Int):Option Y4:=
 bif ilt v7 v6 then
  chk (inB v7 s1.size)<|
  chk (ine 999979 0)<|
  kx s1 (irem (iadd .i64 (iadd .i64 (imul .i64 41 h) (icv .i64 (sbyte s1 v7))) 1) 999979) v6 (iadd .i64 v7 1)
 else
  Q54_K1 N h
def Q54_L1 (N fu_:Nat):=it_4_0 (Q54_B1 N) fu_
def Q54_L1_run (N:Nat):=run4 (Q54_B1 N) (Q54_L1 N) (fun _ _ _ _ _=>rfl)
def Q54 (N:Nat) (s:ByteArray):Option Y4:=
 Q54_L1 N N s 7 (slen s) 0
def Q3 (N:Nat) (s:ByteArray):Option Y12:=
 bif ilt 4000 (slen s) then
  some (((⟨#[]⟩:ByteArray),false),())
 else
  (strings_Contains N s (⟨#[35]⟩:ByteArray)).bind fun r=>
  bif r.1 then
   some (((⟨#[]⟩:ByteArray),false),())
  else
   chk (sfit s (⟨#[35]⟩:ByteArray))<|
   (Q54 N s).bind fun r1=>
   (strconv_Itoa N r1.1).bind fun r2=>
   chk (sfit (scat s (⟨#[35]⟩:ByteArray)) r2.1)<|
   bif ilt 4000 (slen (scat (scat s (⟨#[35]⟩:ByteArray)) r2.1)) then
    some (((⟨#[]⟩:ByteArray),false),())
   else
    some ((scat (scat s (⟨#[35]⟩:ByteArray)) r2.1,true),())
def Q25 (N:Nat) (kx:Int) (e:ByteArray×ByteArray):Option Y12:=
 (Q67 N kx 0 59).bind fun r=>
 bif !r.1 then
  some (((⟨#[]⟩:ByteArray),false),())
 else
  (Q35 N e).bind fun r1=>
  bif !r1.1 then
   some (((⟨#[]⟩:ByteArray),false),())
  else
   (strconv_Itoa N kx).bind fun r2=>
   chk (sfit r2.1 (⟨#[32]⟩:ByteArray))<|
   chk (sfit (scat r2.1 (⟨#[32]⟩:ByteArray)) e.1)<|
   chk (sfit (scat (scat r2.1 (⟨#[32]⟩:ByteArray)) e.1) (⟨#[64]⟩:ByteArray))<|
   chk (sfit (scat (scat (scat r2.1 (⟨#[32]⟩:ByteArray)) e.1) (⟨#[64]⟩:ByteArray)) e.2)<|
   (Q3 N (scat (scat (scat (scat r2.1 (⟨#[32]⟩:ByteArray)) e.1) (⟨#[64]⟩:ByteArray)) e.2)).bind fun r3=>
   chk (sfit r3.1.1 (⟨#[10]⟩:ByteArray))<|
   some ((scat r3.1.1 (⟨#[10]⟩:ByteArray),true),())

def Q49 (N:Nat) (s:ByteArray):Option Y12:=
 (strings_Cut N s (⟨#[35]⟩:ByteArray)).bind fun r=>
 (Q3 N r.1.1).bind fun r1=>
 bif !r1.1.2 then
  some (((⟨#[]⟩:ByteArray),false),())
 else
  bif !(Go.Rx.seq r1.1.1 s) then
   some (((⟨#[]⟩:ByteArray),false),())
  else
   some ((r.1.1,true),())
def Q63_K1 (N:Nat) (records1:List Y10) (ends1:List Int):Option Y19:=
 some ((records1,ends1),())
def Q63_B1 (N:Nat) (kx:ByteArray→Int→(List Y10)→(List Int)→Option Y19) (s1:ByteArray) (atx:Int) (records:List Y10) (ends:List Int):Option Y19:=
 bif ilt (len records) 60 then
  chk (cutB atx (slen s1) s1.size)<|
  (strings_Cut N (scut s1 atx (slen s1)) (⟨#[10]⟩:ByteArray)).bind fun r=>
  bif !r.1.2.2 then
   Q63_K1 N records ends
  else
   (Q49 N r.1.1).bind fun r1=>
   (strings_Cut N r1.1.1 (⟨#[32]⟩:ByteArray)).bind fun r2=>
   (strings_Cut N r2.1.2.1 (⟨#[64]⟩:ByteArray)).bind fun r3=>
   (Q25 N (len records) (r3.1.1,r3.1.2.1)).bind fun r4=>
   bif !r4.1.2 then
    Q63_K1 N records ends
   else
    chk (sfit r.1.1 (⟨#[10]⟩:ByteArray))<|
    bif !(Go.Rx.seq r4.1.1 (scat r.1.1 (⟨#[10]⟩:ByteArray))) then
     Q63_K1 N records ends
    else
     chk (fitB (records.length+1) 32)<|
     chk (fitB (ends.length+1) 8)<|
     kx s1 (iadd .i64 atx (iadd .i64 (slen r.1.1) 1)) (records++[(r3.1.1,r3.1.2.1)]) (ends++[iadd .i64 atx (iadd .i64 (slen r.1.1) 1)])
 else
  Q63_K1 N records ends
def Q63_L1 (N fu_:Nat):=it_2_2 (Q63_B1 N) fu_
theorem Q63_L1_succ (N fu_:Nat) (s1:ByteArray) (atx:Int) (records:List Y10) (ends:List Int):Q63_L1 N (fu_+1) s1 atx records ends=Q63_B1 N (fun s1 atx records ends=>Q63_L1 N fu_ s1 atx records ends) s1 atx records ends:=rfl
def Q63 (N:Nat) (s:ByteArray):Option Y19:=
 Q63_L1 N N s 0 [] [0]
def Q94_K1 (N:Nat):Option Y4:=
 some ((-1),())
def Q94_B1 (N:Nat) (kx:(List Int)→Int→Int→Int→Option Y4) (s1:List Int) (v1:Int) (v7:Int) (v8:Int):Option Y4:=
 bif ilt v8 v7 then
  chk (inB v8 s1.length)<|
  bif ieq v1 (gd s1 v8.toNat 0) then
   some (v8,())
  else
   kx s1 v1 v7 (iadd .i64 v8 1)
 else
  Q94_K1 N
def Q94_L1 (N fu_:Nat):=it_4_0 (Q94_B1 N) fu_
def Q94_L1_run (N:Nat):=run4 (Q94_B1 N) (Q94_L1 N) (fun _ _ _ _ _=>rfl)
def Q94 (N:Nat) (s:List Int) (v:Int):Option Y4:=
 Q94_L1 N N s v (len s) 0
def Q93 (N:Nat) (s:List Int) (v:Int):Option Y5:=
 (Q94 N s v).bind fun r=>
 some (ile 0 r.1,())
def Q34 (N:Nat) (l:ByteArray×ByteArray×Int):Option Y5:=
 bif ilt 30000 (iadd .i64 (slen l.1) (slen l.2.1)) then
  some (false,())
 else
  chk (sfit l.1 l.2.1)<|
  (Q63 N (scat l.1 l.2.1)).bind fun r=>
  chk (inB (len r.1.1) r.1.2.length)<|
  bif ieq (gd r.1.2 (len r.1.1).toNat 0) (iadd .i64 (slen l.1) (slen l.2.1)) then
   bif ieq l.2.2 (len r.1.1) then
    (Q93 N r.1.2 (slen l.1)).bind fun r1=>
    some (r1.1,())
   else
    some (false,())
  else
   some (false,())
def Q33 (N:Nat) (c:Y3×ByteArray×ByteArray×Int):Option Y5:=
 (Q32 N c.1).bind fun r=>
 bif r.1 then
  (Q34 N c.2).bind fun r1=>
  some (r1.1,())
 else
  some (false,())
def Q55 (N:Nat) (list:List Int):Option Y1:=
 chk (fitB (0+list.length) 8)<|
 some (list,())
def Q38 (N:Nat) (l:Y0×(List Int)×Int):Option (Y3×Unit):=
 (Q55 N l.1.1).bind fun r=>
 (Q55 N l.1.2.1).bind fun r1=>
 (Q55 N l.1.2.2.1).bind fun r2=>
 (Q55 N l.1.2.2.2).bind fun r3=>
 (Q55 N l.2.1).bind fun r4=>
 some (((r.1,(r1.1,(r2.1,r3.1))),(r4.1,l.2.2)),())


def Q42 (N:Nat) (s:ByteArray):Option Y7:=
 bif ilt 7 (slen s) then
  some ((0,false),())
 else
  (strconv_Atoi N s).bind fun r=>
  bif !r.1.2 then
   some ((0,false),())
  else
   (Q67 N r.1.1 (-999999) 999999).bind fun r1=>
   bif !r1.1 then
    some ((0,false),())
   else
    (strconv_Itoa N r.1.1).bind fun r2=>
    bif !(Go.Rx.seq r2.1 s) then
     some ((0,false),())
    else
     some ((r.1.1,true),())

def Q14 (N:Nat) (c:(List Int)×(List Int)×(List Int)×(List Int)) (fromx:Int) (to:Int):Option (Y0×Unit):=
 chk (cutB fromx to c.1.length)<|
 (Q55 N (cut c.1 fromx to)).bind fun r=>
 chk (cutB fromx to c.2.1.length)<|
 (Q55 N (cut c.2.1 fromx to)).bind fun r1=>
 chk (cutB fromx to c.2.2.1.length)<|
 (Q55 N (cut c.2.2.1 fromx to)).bind fun r2=>
 chk (cutB fromx to c.2.2.2.length)<|
 (Q55 N (cut c.2.2.2 fromx to)).bind fun r3=>
 some ((r.1,(r1.1,(r2.1,r3.1))),())
def Q37_K1 (N:Nat) (out1:List Int):Option Y1:=
 some (out1,())
def Q37_B1 (N:Nat) (kx:Int→(List Int)→Int→Int→(List Int)→Option Y1) (stock:Int) (v18:List Int) (v19:Int) (v20:Int) (out:List Int):Option Y1:=
 bif ilt v20 v19 then
  chk (inB v20 v18.length)<|
  chk (fitB (out.length+1) 8)<|
  kx (isub .i64 stock (imin stock (gd v18 v20.toNat 0))) v18 v19 (iadd .i64 v20 1) (out++[isub .i64 (gd v18 v20.toNat 0) (imin stock (gd v18 v20.toNat 0))])
 else
  Q37_K1 N out
def Q37_L1 (N fu_:Nat):=it_4_1 (Q37_B1 N) fu_
def Q37_L1_run (N:Nat):=run5 (Q37_B1 N) (Q37_L1 N) (fun _ _ _ _ _ _=>rfl)
def Q37 (N:Nat) (l:Y0×(List Int)×Int):Option Y1:=
 (Q40 N l l.2.2).bind fun r=>
 chk (cutB l.2.2 (len l.1.1) l.1.1.length)<|
 Q37_L1 N N r.1 (cut l.1.1 l.2.2 (len l.1.1)) (len (cut l.1.1 l.2.2 (len l.1.1))) 0 []
def Q20_K1 (N:Nat) (kx:(List Int)→Int→(List Int)→Int→Int→(List Int)→Option Y2) (periods3:List Int) (next2:Int) (need1:Int) (v152:List Int) (v162:Int) (v172:Int) (plan2:List Int):Option Y2:=
 bif ieq next2 0 then
  bif ilt 0 need1 then
   some (([],false),())
  else
   kx periods3 next2 v152 v162 (iadd .i64 v172 1) plan2
 else
  chk (inB (isub .i64 next2 1) periods3.length)<|
  chk (inB (gd periods3 (isub .i64 next2 1).toNat 0) plan2.length)<|
  chk (inB (gd periods3 (isub .i64 next2 1).toNat 0) plan2.length)<|
  kx periods3 next2 v152 v162 (iadd .i64 v172 1) (List.set plan2 (gd periods3 (isub .i64 next2 1).toNat 0).toNat (iadd .i64 (gd plan2 (gd periods3 (isub .i64 next2 1).toNat 0).toNat 0) need1))
def Q20_K2 (N:Nat) (kx:(List Int)→Int→(List Int)→Int→Int→(List Int)→Option Y2) (periods2:List Int) (next1:Int) (need:Int) (v151:List Int) (v161:Int) (v171:Int) (v33:Bool) (plan1:List Int):Option Y2:=
 bif v33 then
  Q20_K1 N kx periods2 (iadd .i64 next1 1) need v151 v161 v171 plan1
 else
  Q20_K1 N kx periods2 next1 need v151 v161 v171 plan1
def Q20_K3 (N:Nat) (plan3:List Int):Option Y2:=
 some ((plan3,true),())
def Q20_B1 (N:Nat) (kx:(List Int)→Int→(List Int)→Int→Int→(List Int)→Option Y2) (periods1:List Int) (next:Int) (v15:List Int) (v16:Int) (v17:Int) (plan:List Int):Option Y2:=
 bif ilt v17 v16 then
  chk (inB v17 v15.length)<|
  bif ilt next (len periods1) then
   chk (inB next periods1.length)<|
   Q20_K2 N kx periods1 next (gd v15 v17.toNat 0) v15 v16 v17 (ieq (gd periods1 next.toNat 0) v17) plan
  else
   Q20_K2 N kx periods1 next (gd v15 v17.toNat 0) v15 v16 v17 false plan
 else
  Q20_K3 N plan
def Q20_L1 (N fu_:Nat):=it_5_1 (Q20_B1 N) fu_
def Q20_L1_run (N:Nat):=run6 (Q20_B1 N) (Q20_L1 N) (fun _ _ _ _ _ _ _=>rfl)
def Q20 (N:Nat) (c:(List Int)×(List Int)×(List Int)×(List Int)) (periods:List Int):Option Y2:=
 chk (mkB (len c.1) 8)<|
 Q20_L1 N N periods 0 c.1 (len c.1) 0 (List.replicate (len c.1).toNat 0)
def Q19_K1 (N:Nat) (kx:Int→Int→Int→Int→(List Int)→Int→Int→Y0→Option Y17) (setups1:Int) (units1:Int) (holds1:Int) (stock1:Int) (i:Int) (amount:Int) (v131:List Int) (v141:Int) (v151:Int) (c2:(List Int)×(List Int)×(List Int)×(List Int)):Option Y17:=
 chk (inB i c2.2.2.1.length)<|
 chk (inB i c2.2.2.2.length)<|
 kx setups1 (iadd .i64 units1 (imul .i64 (gd c2.2.2.1 i.toNat 0) amount)) (iadd .i64 holds1 (imul .i64 (gd c2.2.2.2 i.toNat 0) stock1)) stock1 v131 v141 (iadd .i64 v151 1) c2
def Q19_K2 (N:Nat) (setups2:Int) (units2:Int) (holds2:Int):Option Y17:=
 some ((setups2,(units2,holds2)),())
def Q19_B1 (N:Nat) (kx:Int→Int→Int→Int→(List Int)→Int→Int→Y0→Option Y17) (setups:Int) (units:Int) (holds:Int) (stock:Int) (v13:List Int) (v14:Int) (v15:Int) (c1:(List Int)×(List Int)×(List Int)×(List Int)):Option Y17:=
 bif ilt v15 v14 then
  chk (inB v15 v13.length)<|
  chk (inB v15 c1.1.length)<|
  bif ilt 0 (gd v13 v15.toNat 0) then
   chk (inB v15 c1.2.1.length)<|
   Q19_K1 N kx (iadd .i64 setups (gd c1.2.1 v15.toNat 0)) units holds (iadd .i64 stock (isub .i64 (gd v13 v15.toNat 0) (gd c1.1 v15.toNat 0))) v15 (gd v13 v15.toNat 0) v13 v14 v15 c1
  else
   Q19_K1 N kx setups units holds (iadd .i64 stock (isub .i64 (gd v13 v15.toNat 0) (gd c1.1 v15.toNat 0))) v15 (gd v13 v15.toNat 0) v13 v14 v15 c1
 else
  Q19_K2 N setups units holds
def Q19_L1 (N fu_:Nat):=it_7_1 (Q19_B1 N) fu_
def Q19_L1_run (N:Nat):=run8 (Q19_B1 N) (Q19_L1 N) (fun _ _ _ _ _ _ _ _ _=>rfl)
def Q19 (N:Nat) (c:(List Int)×(List Int)×(List Int)×(List Int)) (plan:List Int):Option Y17:=
 Q19_L1 N N 0 0 0 0 plan (len plan) 0 c
def Q13 (N:Nat) (c:(List Int)×(List Int)×(List Int)×(List Int)) (plan:List Int):Option Y4:=
 (Q19 N c plan).bind fun r=>
 some (iadd .i64 (iadd .i64 r.1.1 r.1.2.1) r.1.2.2,())
def Q1 (N:Nat) (x:Int):Option Y5:=
 some (ine x x,())
def Q0 (N:Nat) (x:Int) (y:Int):Option Y4:=
 (Q1 N x).bind fun r=>
 (Q1 N y).bind fun r1=>
 bif r.1 then
  bif r1.1 then
   some (0,())
  else
   some ((-1),())
 else
  bif r1.1 then
   some (1,())
  else
   bif ilt x y then
    some ((-1),())
   else
    bif ilt y x then
     some (1,())
    else
     some (0,())
def Q92_K1 (N:Nat) (s12:List Int) (s22:List Int):Option Y4:=
 bif ilt (len s12) (len s22) then
  some ((-1),())
 else
  some (0,())
def Q92_B1 (N:Nat) (kx:(List Int)→(List Int)→(List Int)→Int→Int→Option Y4) (s11:List Int) (s21:List Int) (v9:List Int) (v10:Int) (v11:Int):Option Y4:=
 bif ilt v11 v10 then
  chk (inB v11 v9.length)<|
  bif ile (len s21) v11 then
   some (1,())
  else
   chk (inB v11 s21.length)<|
   (Q0 N (gd v9 v11.toNat 0) (gd s21 v11.toNat 0)).bind fun r=>
   bif ine r.1 0 then
    some (r.1,())
   else
    kx s11 s21 v9 v10 (iadd .i64 v11 1)
 else
  Q92_K1 N s11 s21
def Q92_L1 (N fu_:Nat):=it_5_0 (Q92_B1 N) fu_
def Q92_L1_run (N:Nat):=run5 (Q92_B1 N) (Q92_L1 N) (fun _ _ _ _ _ _=>rfl)
def Q92 (N:Nat) (s1:List Int) (s2:List Int):Option Y4:=
 Q92_L1 N N s1 s2 s1 (len s1) 0
def Q9_K1 (N:Nat) (kx:Int→Int→Int→Y0→(List Int)→Option Y6) (least3:Int) (cost:Int) (before:Bool) (v163:Int) (v173:Int) (c4:(List Int)×(List Int)×(List Int)×(List Int)) (best3:List Int) (periods2:List Int):Option Y6:=
 bif ilt least3 0 then
  kx cost v163 (iadd .i64 v173 1) c4 periods2
 else
  bif ilt cost least3 then
   kx cost v163 (iadd .i64 v173 1) c4 periods2
  else
   bif ieq cost least3 then
    bif before then
     kx cost v163 (iadd .i64 v173 1) c4 periods2
    else
     kx least3 v163 (iadd .i64 v173 1) c4 best3
   else
    kx least3 v163 (iadd .i64 v173 1) c4 best3
def Q9_K2 (N:Nat) (kx:Int→Int→Int→Y0→(List Int)→Option Y6) (least2:Int) (v162:Int) (v172:Int) (c3:(List Int)×(List Int)×(List Int)×(List Int)) (best2:List Int) (periods1:List Int):Option Y6:=
 (Q20 N c3 periods1).bind fun r=>
 bif !r.1.2 then
  kx least2 v162 (iadd .i64 v172 1) c3 best2
 else
  (Q13 N c3 r.1.1).bind fun r1=>
  bif ilt (len periods1) (len best2) then
   Q9_K1 N kx least2 r1.1 true v162 v172 c3 best2 periods1
  else
   bif ieq (len periods1) (len best2) then
    (Q92 N periods1 best2).bind fun r2=>
    Q9_K1 N kx least2 r1.1 (ilt r2.1 0) v162 v172 c3 best2 periods1
   else
    Q9_K1 N kx least2 r1.1 false v162 v172 c3 best2 periods1
def Q9_B1 (N:Nat) (kx:Int→Int→Int→Y0→(List Int)→Option Y6) (kx1:Int→Int→Int→Int→Int→Int→Y0→(List Int)→(List Int)→Option Y6) (least1:Int) (setx:Int) (v161:Int) (v171:Int) (v23:Int) (v24:Int) (c2:(List Int)×(List Int)×(List Int)×(List Int)) (best1:List Int) (periods:List Int):Option Y6:=
 bif ilt v24 v23 then
  chk (ile 0 v24)<|
  bif ieq (iand .i64 (ishr .i64 setx v24) 1) 1 then
   chk (fitB (periods.length+1) 8)<|
   kx1 least1 setx v161 v171 v23 (iadd .i64 v24 1) c2 best1 (periods++[v24])
  else
   kx1 least1 setx v161 v171 v23 (iadd .i64 v24 1) c2 best1 periods
 else
  Q9_K2 N kx least1 v161 v171 c2 best1 periods
def Q9_L1 (N fu_:Nat) (kx:Int→Int→Int→Y0→(List Int)→Option Y6):=it_6_3 (Q9_B1 N kx) fu_
def Q9_L1_run (N:Nat) (kx:Int→Int→Int→Y0→(List Int)→Option Y6):=run9 (Q9_B1 N kx) (fun u_=>Q9_L1 N u_ kx) (fun _ _ _ _ _ _ _ _ _ _=>rfl)
def Q9_K3 (N:Nat) (least4:Int) (best4:List Int):Option Y6:=
 some ((best4,least4),())
def Q9_B2 (N:Nat) (kx:Int→Int→Int→Y0→(List Int)→Option Y6) (least:Int) (v16:Int) (v17:Int) (c1:(List Int)×(List Int)×(List Int)×(List Int)) (best:List Int):Option Y6:=
 bif ilt v17 v16 then
  Q9_L1 N N kx least v17 v16 v17 (len c1.1) 0 c1 best []
 else
  Q9_K3 N least best
def Q9_L2 (N fu_:Nat):=it_3_2 (Q9_B2 N) fu_
def Q9_L2_run (N:Nat):=run5 (Q9_B2 N) (Q9_L2 N) (fun _ _ _ _ _ _=>rfl)
def Q9 (N:Nat) (c:(List Int)×(List Int)×(List Int)×(List Int)):Option Y6:=
 chk (ile 0 (len c.1))<|
 Q9_L2 N N (-1) (ishl .i64 1 (len c.1)) 0 c []
def Q91_K1 (N:Nat) (nonex1:Bool) (openx:Bool) (l2:Y0×(List Int)×Int) (a2:Int×Int×Int×Int×Int):Option (Bool×Y3):=
 bif ieq a2.1 1 then
  chk (fitB (l2.1.1.length+1) 8)<|
  chk (fitB (l2.1.2.1.length+1) 8)<|
  chk (fitB (l2.1.2.2.1.length+1) 8)<|
  chk (fitB (l2.1.2.2.2.length+1) 8)<|
  chk (fitB (l2.2.1.length+1) 8)<|
  some (true,((l2.1.1++[a2.2.1],(l2.1.2.1++[a2.2.2.1],(l2.1.2.2.1++[a2.2.2.2.1],l2.1.2.2.2++[a2.2.2.2.2]))),(l2.2.1++[0],l2.2.2)))
 else
  bif ieq a2.1 2 then
   bif openx then
    chk (inB a2.2.1 l2.1.1.length)<|
    some (openx,((List.set l2.1.1 a2.2.1.toNat a2.2.2.1,l2.1.2),l2.2))
   else
    some (openx,l2)
  else
   bif ieq a2.1 3 then
    bif openx then
     chk (inB a2.2.1 l2.2.1.length)<|
     some (openx,(l2.1,(List.set l2.2.1 a2.2.1.toNat a2.2.2.1,l2.2.2)))
    else
     some (openx,l2)
   else
    bif ieq a2.1 4 then
     bif nonex1 then
      some (ile (iadd .i64 l2.2.2 1) (len l2.2.1),(l2.1,(l2.2.1,iadd .i64 l2.2.2 1)))
     else
      some (false,(l2.1,(l2.2.1,iadd .i64 l2.2.2 1)))
    else
     bif ieq a2.1 5 then
      (Q14 N l2.1 l2.2.2 (len l2.2.1)).bind fun r1=>
      (Q37 N l2).bind fun r2=>
      (Q9 N (r2.1,r1.1.2)).bind fun r3=>
      (Q20 N (r2.1,r1.1.2) r3.1.1).bind fun r4=>
      chk (cutB l2.2.2 (len l2.2.1) l2.2.1.length)<|
      some (nonex1,(l2.1,(over l2.2.1 l2.2.2.toNat (List.take ((len l2.2.1).toNat - l2.2.2.toNat) r4.1.1),l2.2.2)))
     else
      bif ieq a2.1 6 then
       chk (cutB l2.2.2 (len l2.2.1) l2.2.1.length)<|
       some (nonex1,(l2.1,(over l2.2.1 l2.2.2.toNat (List.replicate ((len l2.2.1).toNat - l2.2.2.toNat) (0:Int)),l2.2.2)))
      else
       some (false,l2)
def Q91_K2 (N:Nat) (nonex:Bool) (l1:Y0×(List Int)×Int) (a1:Int×Int×Int×Int×Int):Option (Bool×Y3):=
 (Q67 N a1.2.1 l1.2.2 (isub .i64 (len l1.2.1) 1)).bind fun r=>
 bif r.1 then
  bif ieq a1.2.2.2.1 0 then
   Q91_K1 N nonex (ieq a1.2.2.2.2 0) l1 a1
  else
   Q91_K1 N nonex false l1 a1
 else
  Q91_K1 N nonex false l1 a1
def Q91 (N:Nat) (l:Y0×(List Int)×Int) (a:Int×Int×Int×Int×Int):Option (Bool×Y3):=
 bif ieq a.2.1 0 then
  bif ieq a.2.2.1 0 then
   bif ieq a.2.2.2.1 0 then
    Q91_K2 N (ieq a.2.2.2.2 0) l a
   else
    Q91_K2 N false l a
  else
   Q91_K2 N false l a
 else
  Q91_K2 N false l a
def Q2 (N:Nat) (l:Y0×(List Int)×Int) (a:Int×Int×Int×Int×Int):Option ((Y3×Bool)×Unit):=
 (Q32 N l).bind fun r=>
 bif !r.1 then
  some (((([],([],([],[]))),([],0)),false),())
 else
  (Q38 N l).bind fun r1=>
  (Q91 N r1.1 a).bind fun r2=>
  bif !r2.1 then
   some (((([],([],([],[]))),([],0)),false),())
  else
   (Q32 N r2.2).bind fun r3=>
   bif !r3.1 then
    some (((([],([],([],[]))),([],0)),false),())
   else
    some ((r2.2,true),())
def Q28 (N:Nat) (n:Int):Option Y12:=
 (Q67 N n (-999999) 999999).bind fun r=>
 bif !r.1 then
  some (((⟨#[]⟩:ByteArray),false),())
 else
  (strconv_Itoa N n).bind fun r1=>
  some ((r1.1,true),())
def Q62 (N:Nat) (n:Int) (ok:Bool):Option Y12:=
 bif !ok then
  some (((⟨#[]⟩:ByteArray),false),())
 else
  (Q28 N n).bind fun r=>
  some ((r.1.1,r.1.2),())
def Q47 (N:Nat) (l:Y0×(List Int)×Int):Option Y7:=
 (Q32 N l).bind fun r=>
 bif !r.1 then
  some ((0,false),())
 else
  (Q40 N l l.2.2).bind fun r1=>
  some ((r1.1,true),())

def Q61_K1 (N:Nat) (words1:List ByteArray):Option Y12:=
 bif ieq (len words1) 0 then
  some (((⟨#[110,111,110,101]⟩:ByteArray),true),())
 else
  (strings_Join N words1 (⟨#[32]⟩:ByteArray)).bind fun r1=>
  some ((r1.1,true),())
def Q61_B1 (N:Nat) (kx:(List Int)→Int→Int→Y9→Option Y12) (v14:List Int) (v15:Int) (v16:Int) (words:List ByteArray):Option Y12:=
 bif ilt v16 v15 then
  chk (inB v16 v14.length)<|
  (Q28 N (gd v14 v16.toNat 0)).bind fun r=>
  bif !r.1.2 then
   some (((⟨#[]⟩:ByteArray),false),())
  else
   chk (fitB (words.length+1) 16)<|
   kx v14 v15 (iadd .i64 v16 1) (words++[r.1.1])
 else
  Q61_K1 N words
def Q61_L1 (N fu_:Nat):=it_3_1 (Q61_B1 N) fu_
def Q61_L1_run (N:Nat):=run4 (Q61_B1 N) (Q61_L1 N) (fun _ _ _ _ _=>rfl)
def Q61 (N:Nat) (list:List Int) (ok:Bool):Option Y12:=
 bif !ok then
  some (((⟨#[]⟩:ByteArray),false),())
 else
  Q61_L1 N N list (len list) 0 []
def Q39_K1 (N:Nat) (out1:List Int):Option Y1:=
 some (out1,())
def Q39_B1 (N:Nat) (kx:Int→Y3→(List Int)→Option Y1) (i:Int) (l1:Y0×(List Int)×Int) (out:List Int):Option Y1:=
 bif ilt i (len l1.2.1) then
  (Q40 N l1 (iadd .i64 i 1)).bind fun r=>
  bif ilt r.1 0 then
   chk (fitB (out.length+1) 8)<|
   kx (iadd .i64 i 1) l1 (out++[i])
  else
   kx (iadd .i64 i 1) l1 out
 else
  Q39_K1 N out
def Q39_L1 (N fu_:Nat):=it_1_2 (Q39_B1 N) fu_
def Q39_L1_run (N:Nat):=run3 (Q39_B1 N) (Q39_L1 N) (fun _ _ _ _=>rfl)
def Q39 (N:Nat) (l:Y0×(List Int)×Int):Option Y1:=
 Q39_L1 N N l.2.2 l []
def Q46 (N:Nat) (l:Y0×(List Int)×Int):Option Y2:=
 (Q32 N l).bind fun r=>
 bif !r.1 then
  some (([],false),())
 else
  (Q39 N l).bind fun r1=>
  some ((r1.1,true),())
def Q50 (N:Nat) (l:Y0×(List Int)×Int) (kind:Int):Option Y12:=
 bif ieq kind 1 then
  (Q62 N (len l.2.1) true).bind fun r=>
  some ((r.1.1,r.1.2),())
 else
  bif ieq kind 4 then
   (Q47 N l).bind fun r1=>
   (Q62 N r1.1.1 r1.1.2).bind fun r2=>
   some ((r2.1.1,r2.1.2),())
  else
   bif ieq kind 5 then
    (Q61 N l.2.1 true).bind fun r3=>
    some ((r3.1.1,r3.1.2),())
   else
    (Q46 N l).bind fun r4=>
    (Q61 N r4.1.1 r4.1.2).bind fun r5=>
    some ((r5.1.1,r5.1.2),())
def Q21 (N:Nat) (c:(List Int)×(List Int)×(List Int)×(List Int)) (i:Int) (t:Int):Option Y4:=
 chk (inB i c.2.2.1.length)<|
 chk (cutB i t c.2.2.2.length)<|
 (Q66 N (cut c.2.2.2 i t)).bind fun r=>
 some (iadd .i64 (gd c.2.2.1 i.toNat 0) r.1,())
def Q22_K1 (N:Nat) (sum1:Int):Option Y4:=
 some (sum1,())
def Q22_B1 (N:Nat) (kx:Int→Int→Int→Int→Y0→Option Y4) (i1:Int) (j1:Int) (sum:Int) (t:Int) (c1:(List Int)×(List Int)×(List Int)×(List Int)):Option Y4:=
 bif ilt t j1 then
  chk (inB t c1.1.length)<|
  (Q21 N c1 i1 t).bind fun r1=>
  kx i1 j1 (iadd .i64 sum (imul .i64 (gd c1.1 t.toNat 0) r1.1)) (iadd .i64 t 1) c1
 else
  Q22_K1 N sum
def Q22_L1 (N fu_:Nat):=it_4_1 (Q22_B1 N) fu_
def Q22_L1_run (N:Nat):=run5 (Q22_B1 N) (Q22_L1 N) (fun _ _ _ _ _ _=>rfl)
def Q22 (N:Nat) (c:(List Int)×(List Int)×(List Int)×(List Int)) (i:Int) (j:Int):Option Y4:=
 chk (cutB i j c.1.length)<|
 (Q66 N (cut c.1 i j)).bind fun r=>
 bif ieq r.1 0 then
  some (0,())
 else
  chk (inB i c.2.1.length)<|
  Q22_L1 N N i j (gd c.2.1 i.toNat 0) i c
def Q17 (N:Nat) (c:(List Int)×(List Int)×(List Int)×(List Int)) (rule:Int) (i:Int) (j:Int):Option Y5:=
 (Q22 N c i j).bind fun r=>
 (Q22 N c i (iadd .i64 j 1)).bind fun r1=>
 bif ieq rule 1 then
  some (ile (imul .i64 r1.1 (isub .i64 j i)) (imul .i64 r.1 (isub .i64 (iadd .i64 j 1) i)),())
 else
  bif ieq rule 2 then
   chk (cutB i j c.1.length)<|
   (Q66 N (cut c.1 i j)).bind fun r2=>
   chk (cutB i (iadd .i64 j 1) c.1.length)<|
   (Q66 N (cut c.1 i (iadd .i64 j 1))).bind fun r3=>
   some (ile (imul .i64 r1.1 r2.1) (imul .i64 r.1 r3.1),())
  else
   chk (inB i c.2.1.length)<|
   chk (inB i c.2.2.1.length)<|
   chk (cutB i (iadd .i64 j 1) c.1.length)<|
   (Q66 N (cut c.1 i (iadd .i64 j 1))).bind fun r4=>
   chk (inB i c.2.1.length)<|
   some (ile (isub .i64 (isub .i64 r1.1 (gd c.2.1 i.toNat 0)) (imul .i64 (gd c.2.2.1 i.toNat 0) r4.1)) (gd c.2.1 i.toNat 0),())
def Q11_K1 (N:Nat) (kx:Int→Int→Int→Y0→(List Int)→Option Y1) (rule3:Int) (n2:Int) (j1:Int) (c3:(List Int)×(List Int)×(List Int)×(List Int)) (out2:List Int):Option Y1:=
 kx rule3 n2 j1 c3 out2
def Q11_B1 (N:Nat) (kx:Int→Int→Int→Y0→(List Int)→Option Y1) (kx1:Int→Int→Int→Int→Y0→(List Int)→Option Y1) (rule2:Int) (n1:Int) (i1:Int) (j:Int) (c2:(List Int)×(List Int)×(List Int)×(List Int)) (out1:List Int):Option Y1:=
 bif ilt j n1 then
  (Q17 N c2 rule2 i1 j).bind fun r=>
  bif r.1 then
   kx1 rule2 n1 i1 (iadd .i64 j 1) c2 out1
  else
   Q11_K1 N kx rule2 n1 j c2 out1
 else
  Q11_K1 N kx rule2 n1 j c2 out1
def Q11_L1 (N fu_:Nat) (kx:Int→Int→Int→Y0→(List Int)→Option Y1):=it_4_2 (Q11_B1 N kx) fu_
def Q11_L1_run (N:Nat) (kx:Int→Int→Int→Y0→(List Int)→Option Y1):=run6 (Q11_B1 N kx) (fun u_=>Q11_L1 N u_ kx) (fun _ _ _ _ _ _ _=>rfl)
def Q11_K2 (N:Nat) (out3:List Int):Option Y1:=
 some (out3,())
def Q11_B2 (N:Nat) (kx:Int→Int→Int→Y0→(List Int)→Option Y1) (rule1:Int) (n:Int) (i:Int) (c1:(List Int)×(List Int)×(List Int)×(List Int)) (out:List Int):Option Y1:=
 bif ilt i n then
  chk (inB i c1.1.length)<|
  bif ieq (gd c1.1 i.toNat 0) 0 then
   kx rule1 n (iadd .i64 i 1) c1 out
  else
   chk (fitB (out.length+1) 8)<|
   Q11_L1 N N kx rule1 n i (iadd .i64 i 1) c1 (out++[i])
 else
  Q11_K2 N out
def Q11_L2 (N fu_:Nat):=it_3_2 (Q11_B2 N) fu_
theorem Q11_L2_succ (N fu_:Nat) (rule1:Int) (n:Int) (i:Int) (c1:(List Int)×(List Int)×(List Int)×(List Int)) (out:List Int):Q11_L2 N (fu_+1) rule1 n i c1 out=Q11_B2 N (fun rule1 n i c1 out=>Q11_L2 N fu_ rule1 n i c1 out) rule1 n i c1 out:=rfl
def Q11 (N:Nat) (c:(List Int)×(List Int)×(List Int)×(List Int)) (rule:Int):Option Y1:=
 Q11_L2 N N rule (len c.1) 0 c []
def Q44 (N:Nat) (c:(List Int)×(List Int)×(List Int)×(List Int)) (rule:Int):Option Y2:=
 (Q31 N c).bind fun r=>
 bif !r.1 then
  some (([],false),())
 else
  (Q67 N rule 1 3).bind fun r1=>
  bif !r1.1 then
   some (([],false),())
  else
   (Q11 N c rule).bind fun r2=>
   some ((r2.1,true),())
def Q8_K1 (N:Nat) (kx:Int→Int→Y0→(List Int)→Option Y1) (n2:Int) (i2:Int) (c3:(List Int)×(List Int)×(List Int)×(List Int)) (out2:List Int):Option Y1:=
 kx n2 (isub .i64 i2 1) c3 out2
def Q8_B1 (N:Nat) (kx:Int→Int→Y0→(List Int)→Option Y1) (kx1:Int→Int→Int→Y0→(List Int)→Option Y1) (n1:Int) (i1:Int) (j:Int) (c2:(List Int)×(List Int)×(List Int)×(List Int)) (out1:List Int):Option Y1:=
 bif ilt j n1 then
  chk (inB i1 out1.length)<|
  (Q22 N c2 i1 j).bind fun r1=>
  chk (inB j out1.length)<|
  chk (inB i1 out1.length)<|
  kx1 n1 i1 (iadd .i64 j 1) c2 (List.set out1 i1.toNat (imin (gd out1 i1.toNat 0) (iadd .i64 r1.1 (gd out1 j.toNat 0))))
 else
  Q8_K1 N kx n1 i1 c2 out1
def Q8_L1 (N fu_:Nat) (kx:Int→Int→Y0→(List Int)→Option Y1):=it_3_2 (Q8_B1 N kx) fu_
def Q8_L1_run (N:Nat) (kx:Int→Int→Y0→(List Int)→Option Y1):=run5 (Q8_B1 N kx) (fun u_=>Q8_L1 N u_ kx) (fun _ _ _ _ _ _=>rfl)
def Q8_K2 (N:Nat) (out3:List Int):Option Y1:=
 some (out3,())
def Q8_B2 (N:Nat) (kx:Int→Int→Y0→(List Int)→Option Y1) (n:Int) (i:Int) (c1:(List Int)×(List Int)×(List Int)×(List Int)) (out:List Int):Option Y1:=
 bif ile 0 i then
  (Q22 N c1 i n).bind fun r=>
  chk (inB i out.length)<|
  Q8_L1 N N kx n i (iadd .i64 i 1) c1 (List.set out i.toNat r.1)
 else
  Q8_K2 N out
def Q8_L2 (N fu_:Nat):=it_2_2 (Q8_B2 N) fu_
def Q8_L2_run (N:Nat):=run4 (Q8_B2 N) (Q8_L2 N) (fun _ _ _ _ _=>rfl)
def Q8 (N:Nat) (c:(List Int)×(List Int)×(List Int)×(List Int)):Option Y1:=
 chk (mkB (iadd .i64 (len c.1) 1) 8)<|
 Q8_L2 N N (len c.1) (isub .i64 (len c.1) 1) c (List.replicate (iadd .i64 (len c.1) 1).toNat 0)
def Q43 (N:Nat) (c:(List Int)×(List Int)×(List Int)×(List Int)) (rule:Int):Option Y7:=
 (Q31 N c).bind fun r=>
 bif !r.1 then
  some ((0,false),())
 else
  (Q67 N rule 1 3).bind fun r1=>
  bif !r1.1 then
   some ((0,false),())
  else
   (Q11 N c rule).bind fun r2=>
   (Q20 N c r2.1).bind fun r3=>
   (Q13 N c r3.1.1).bind fun r4=>
   (Q8 N c).bind fun r5=>
   chk (inB 0 r5.1.length)<|
   some ((isub .i64 r4.1 (gd r5.1 0 0),true),())
def Q59 (N:Nat) (life:Int):Option Y5:=
 (Q67 N life 1 8).bind fun r=>
 some (r.1,())
def Q65 (N:Nat) (a:List Int) (b:List Int):Option Y4:=
 bif ine (len a) (len b) then
  some (isub .i64 (len a) (len b),())
 else
  (Q92 N a b).bind fun r=>
  some (r.1,())

def Q64_K1 (N:Nat) (kx:Int→Int→Int→Y13→Option Y18) (n3:Int) (v92:Int) (v102:Int) (out2:List (List Int)) (list1:List Int):Option Y18:=
 chk (fitB (out2.length+1) 24)<|
 kx n3 v92 (iadd .i64 v102 1) (out2++[list1])
def Q64_B1 (N:Nat) (kx:Int→Int→Int→Y13→Option Y18) (kx1:Int→Int→Int→Int→Int→Int→Y13→(List Int)→Option Y18) (n2:Int) (code:Int) (v91:Int) (v101:Int) (v14:Int) (v15:Int) (out1:List (List Int)) (list:List Int):Option Y18:=
 bif ilt v15 v14 then
  chk (ile 0 v15)<|
  bif ieq (iand .i64 (ishr .i64 code v15) 1) 1 then
   chk (fitB (list.length+1) 8)<|
   kx1 n2 code v91 v101 v14 (iadd .i64 v15 1) out1 (list++[v15])
  else
   kx1 n2 code v91 v101 v14 (iadd .i64 v15 1) out1 list
 else
  Q64_K1 N kx n2 v91 v101 out1 list
def Q64_L1 (N fu_:Nat) (kx:Int→Int→Int→Y13→Option Y18):=it_6_2 (Q64_B1 N kx) fu_
def Q64_L1_run (N:Nat) (kx:Int→Int→Int→Y13→Option Y18):=run8 (Q64_B1 N kx) (fun u_=>Q64_L1 N u_ kx) (fun _ _ _ _ _ _ _ _ _=>rfl)
def Q64_K2 (N:Nat) (out3:List (List Int)):Option Y18:=
 (slices_SortFunc_int_int__impl_sets_1 N out3).bind fun r=>
 some (r.2,())
def Q64_B2 (N:Nat) (kx:Int→Int→Int→Y13→Option Y18) (n1:Int) (v9:Int) (v10:Int) (out:List (List Int)):Option Y18:=
 bif ilt v10 v9 then
  Q64_L1 N N kx n1 v10 v9 v10 n1 0 out []
 else
  Q64_K2 N out
def Q64_L2 (N fu_:Nat):=it_3_1 (Q64_B2 N) fu_
def Q64_L2_run (N:Nat):=run4 (Q64_B2 N) (Q64_L2 N) (fun _ _ _ _ _=>rfl)
def Q64 (N:Nat) (n:Int):Option Y18:=
 chk (ile 0 n)<|
 Q64_L2 N N n (ishl .i64 1 n) 0 []
def Q16_K1 (N:Nat) (kx1:Int→(List Int)→Int→(List Int)→Int→Int→Y0→Option Y7) (life5:Int) (periods5:List Int) (sum4:Int) (need1:Int) (least1:Int) (v312:List Int) (v322:Int) (v332:Int) (c5:(List Int)×(List Int)×(List Int)×(List Int)):Option Y7:=
 bif ilt 0 need1 then
  bif ieq least1 1099511627776 then
   some ((0,false),())
  else
   kx1 life5 periods5 (iadd .i64 sum4 (imul .i64 need1 least1)) v312 v322 (iadd .i64 v332 1) c5
 else
  kx1 life5 periods5 sum4 v312 v322 (iadd .i64 v332 1) c5
def Q16_B1 (N:Nat) (kx1:Int→(List Int)→Int→(List Int)→Int→Int→Y0→Option Y7) (kx2:Int→(List Int)→Int→Int→Int→Int→(List Int)→Int→Int→(List Int)→Int→Int→Y0→Option Y7) (life4:Int) (periods4:List Int) (sum3:Int) (t:Int) (need:Int) (least:Int) (v311:List Int) (v321:Int) (v331:Int) (v38:List Int) (v39:Int) (v40:Int) (c4:(List Int)×(List Int)×(List Int)×(List Int)):Option Y7:=
 bif ilt v40 v39 then
  chk (inB v40 v38.length)<|
  (Q67 N (gd v38 v40.toNat 0) (iadd .i64 (isub .i64 t life4) 1) t).bind fun r=>
  bif r.1 then
   (Q21 N c4 (gd v38 v40.toNat 0) t).bind fun r1=>
   kx2 life4 periods4 sum3 t need (imin least r1.1) v311 v321 v331 v38 v39 (iadd .i64 v40 1) c4
  else
   kx2 life4 periods4 sum3 t need least v311 v321 v331 v38 v39 (iadd .i64 v40 1) c4
 else
  Q16_K1 N kx1 life4 periods4 sum3 need least v311 v321 v331 c4
def Q16_L1 (N fu_:Nat) (kx1:Int→(List Int)→Int→(List Int)→Int→Int→Y0→Option Y7):=it_12_1 (Q16_B1 N kx1) fu_
def Q16_L1_run (N:Nat) (kx1:Int→(List Int)→Int→(List Int)→Int→Int→Y0→Option Y7):=Zp9 (Q16_B1 N kx1) (fun u_=>Q16_L1 N u_ kx1) (fun _ _ _ _ _ _ _ _ _ _ _ _ _ _=>rfl)
def Q16_K2 (N:Nat) (sum5:Int):Option Y7:=
 some ((sum5,true),())
def Q16_B2 (N:Nat) (kx1:Int→(List Int)→Int→(List Int)→Int→Int→Y0→Option Y7) (life3:Int) (periods3:List Int) (sum2:Int) (v31:List Int) (v32:Int) (v33:Int) (c3:(List Int)×(List Int)×(List Int)×(List Int)):Option Y7:=
 bif ilt v33 v32 then
  chk (inB v33 v31.length)<|
  Q16_L1 N N kx1 life3 periods3 sum2 v33 (gd v31 v33.toNat 0) 1099511627776 v31 v32 v33 periods3 (len periods3) 0 c3
 else
  Q16_K2 N sum2
def Q16_L2 (N fu_:Nat):=it_6_1 (Q16_B2 N) fu_
def Q16_L2_run (N:Nat):=run7 (Q16_B2 N) (Q16_L2 N) (fun _ _ _ _ _ _ _ _=>rfl)
def Q16_K3 (N:Nat) (life2:Int) (periods2:List Int) (sum1:Int) (c2:(List Int)×(List Int)×(List Int)×(List Int)):Option Y7:=
 Q16_L2 N N life2 periods2 sum1 c2.1 (len c2.1) 0 c2
def Q16_B3 (N:Nat) (kx:Int→(List Int)→Int→(List Int)→Int→Int→Y0→Option Y7) (life1:Int) (periods1:List Int) (sum:Int) (v16:List Int) (v17:Int) (v18:Int) (c1:(List Int)×(List Int)×(List Int)×(List Int)):Option Y7:=
 bif ilt v18 v17 then
  chk (inB v18 v16.length)<|
  chk (inB (gd v16 v18.toNat 0) c1.2.1.length)<|
  kx life1 periods1 (iadd .i64 sum (gd c1.2.1 (gd v16 v18.toNat 0).toNat 0)) v16 v17 (iadd .i64 v18 1) c1
 else
  Q16_K3 N life1 periods1 sum c1
def Q16_L3 (N fu_:Nat):=it_6_1 (Q16_B3 N) fu_
def Q16_L3_run (N:Nat):=run7 (Q16_B3 N) (Q16_L3 N) (fun _ _ _ _ _ _ _ _=>rfl)
def Q16 (N:Nat) (c:(List Int)×(List Int)×(List Int)×(List Int)) (life:Int) (periods:List Int):Option Y7:=
 Q16_L3 N N life periods 0 periods (len periods) 0 c
def Q10_K1 (N:Nat) (kx:Int→(List Int)→Int→Int→Int→Y0→Y13→Option Y6) (life2:Int) (best1:List Int) (least1:Int) (v171:Int) (v181:Int) (c2:(List Int)×(List Int)×(List Int)×(List Int)) (v161:List (List Int)):Option Y6:=
 kx life2 best1 least1 v171 (iadd .i64 v181 1) c2 v161
def Q10_K2 (N:Nat) (best2:List Int) (least2:Int):Option Y6:=
 some ((best2,least2),())
def Q10_B1 (N:Nat) (kx:Int→(List Int)→Int→Int→Int→Y0→Y13→Option Y6) (life1:Int) (best:List Int) (least:Int) (v17:Int) (v18:Int) (c1:(List Int)×(List Int)×(List Int)×(List Int)) (v16:List (List Int)):Option Y6:=
 bif ilt v18 v17 then
  chk (inB v18 v16.length)<|
  (Q16 N c1 life1 (gd v16 v18.toNat [])).bind fun r1=>
  bif r1.1.2 then
   bif ilt r1.1.1 least then
    Q10_K1 N kx life1 (gd v16 v18.toNat []) r1.1.1 v17 v18 c1 v16
   else
    Q10_K1 N kx life1 best least v17 v18 c1 v16
  else
   Q10_K1 N kx life1 best least v17 v18 c1 v16
 else
  Q10_K2 N best least
def Q10_L1 (N fu_:Nat):=it_5_2 (Q10_B1 N) fu_
def Q10_L1_run (N:Nat):=run7 (Q10_B1 N) (Q10_L1 N) (fun _ _ _ _ _ _ _ _=>rfl)
def Q10 (N:Nat) (c:(List Int)×(List Int)×(List Int)×(List Int)) (life:Int):Option Y6:=
 (Q64 N (len c.1)).bind fun r=>
 Q10_L1 N N life [] 1099511627776 (len r.1) 0 c r.1
def Q6 (N:Nat) (c:(List Int)×(List Int)×(List Int)×(List Int)) (life:Int):Option (((List Int)×Int×Bool)×Unit):=
 (Q31 N c).bind fun r=>
 bif !r.1 then
  some (([],(0,false)),())
 else
  (Q59 N life).bind fun r1=>
  bif !r1.1 then
   some (([],(0,false)),())
  else
   (Q10 N c life).bind fun r2=>
   some ((r2.1.1,(r2.1.2,true)),())
def Q36_K1 (N:Nat) (kx:Int→Int→Int→Y3→Option Y4) (to2:Int) (sum1:Int) (i1:Int) (l2:Y0×(List Int)×Int):Option Y4:=
 chk (inB i1 l2.1.2.2.1.length)<|
 chk (inB i1 l2.2.1.length)<|
 chk (inB i1 l2.1.2.2.2.length)<|
 (Q40 N l2 (iadd .i64 i1 1)).bind fun r=>
 kx to2 (iadd .i64 sum1 (iadd .i64 (imul .i64 (gd l2.1.2.2.1 i1.toNat 0) (gd l2.2.1 i1.toNat 0)) (imul .i64 (gd l2.1.2.2.2 i1.toNat 0) r.1))) (iadd .i64 i1 1) l2
def Q36_K2 (N:Nat) (sum2:Int):Option Y4:=
 some (sum2,())
def Q36_B1 (N:Nat) (kx:Int→Int→Int→Y3→Option Y4) (to1:Int) (sum:Int) (i:Int) (l1:Y0×(List Int)×Int):Option Y4:=
 bif ilt i to1 then
  chk (inB i l1.2.1.length)<|
  bif ilt 0 (gd l1.2.1 i.toNat 0) then
   chk (inB i l1.1.2.1.length)<|
   Q36_K1 N kx to1 (iadd .i64 sum (gd l1.1.2.1 i.toNat 0)) i l1
  else
   Q36_K1 N kx to1 sum i l1
 else
  Q36_K2 N sum
def Q36_L1 (N fu_:Nat):=it_3_1 (Q36_B1 N) fu_
def Q36_L1_run (N:Nat):=run4 (Q36_B1 N) (Q36_L1 N) (fun _ _ _ _ _=>rfl)
def Q36 (N:Nat) (l:Y0×(List Int)×Int) (fromx:Int) (to:Int):Option Y4:=
 Q36_L1 N N to 0 fromx l
def Q24 (N:Nat) (l:Y0×(List Int)×Int):Option Y7:=
 (Q32 N l).bind fun r=>
 bif !r.1 then
  some ((0,false),())
 else
  (Q36 N l 0 l.2.2).bind fun r1=>
  some ((r1.1,true),())
def Q23 (N:Nat) (l:Y0×(List Int)×Int):Option Y7:=
 (Q32 N l).bind fun r=>
 bif !r.1 then
  some ((0,false),())
 else
  (Q39 N l).bind fun r1=>
  bif ilt 0 (len r1.1) then
   some ((0,false),())
  else
   (Q36 N l l.2.2 (len l.2.1)).bind fun r2=>
   some ((r2.1,true),())
def Q41 (N:Nat) (l:Y0×(List Int)×Int):Option Y2:=
 (Q32 N l).bind fun r=>
 bif !r.1 then
  some (([],false),())
 else
  (Q37 N l).bind fun r1=>
  some ((r1.1,true),())
def Q56_K1 (N:Nat) (between2:ByteArray) (words1:List ByteArray):Option Y8:=
 (strings_Join N words1 between2).bind fun r1=>
 some (r1.1,())
def Q56_B1 (N:Nat) (kx:ByteArray→(List Int)→Int→Int→Y9→Option Y8) (between1:ByteArray) (v9:List Int) (v10:Int) (v11:Int) (words:List ByteArray):Option Y8:=
 bif ilt v11 v10 then
  chk (inB v11 v9.length)<|
  (strconv_Itoa N (gd v9 v11.toNat 0)).bind fun r=>
  chk (fitB (words.length+1) 16)<|
  kx between1 v9 v10 (iadd .i64 v11 1) (words++[r.1])
 else
  Q56_K1 N between1 words
def Q56_L1 (N fu_:Nat):=it_4_1 (Q56_B1 N) fu_
def Q56_L1_run (N:Nat):=run5 (Q56_B1 N) (Q56_L1 N) (fun _ _ _ _ _ _=>rfl)
def Q56 (N:Nat) (list:List Int) (between:ByteArray):Option Y8:=
 Q56_L1 N N between list (len list) 0 []
def Q53_K1 (N:Nat) (words1:List ByteArray):Option Y8:=
 bif ieq (len words1) 0 then
  some ((⟨#[110,111,110,101]⟩:ByteArray),())
 else
  (strings_Join N words1 (⟨#[32]⟩:ByteArray)).bind fun r1=>
  some (r1.1,())
def Q53_B1 (N:Nat) (kx:(List Int)→Int→Int→Y0→Y9→Option Y8) (v8:List Int) (v9:Int) (v10:Int) (c1:(List Int)×(List Int)×(List Int)×(List Int)) (words:List ByteArray):Option Y8:=
 bif ilt v10 v9 then
  chk (inB v10 v8.length)<|
  chk (inB v10 c1.2.1.length)<|
  chk (inB v10 c1.2.2.1.length)<|
  chk (inB v10 c1.2.2.2.length)<|
  (Q56 N [gd v8 v10.toNat 0,gd c1.2.1 v10.toNat 0,gd c1.2.2.1 v10.toNat 0,gd c1.2.2.2 v10.toNat 0] (⟨#[47]⟩:ByteArray)).bind fun r=>
  chk (fitB (words.length+1) 16)<|
  kx v8 v9 (iadd .i64 v10 1) c1 (words++[r.1])
 else
  Q53_K1 N words
def Q53_L1 (N fu_:Nat):=it_3_2 (Q53_B1 N) fu_
def Q53_L1_run (N:Nat):=run5 (Q53_B1 N) (Q53_L1 N) (fun _ _ _ _ _ _=>rfl)
def Q53 (N:Nat) (c:(List Int)×(List Int)×(List Int)×(List Int)):Option Y8:=
 Q53_L1 N N c.1 (len c.1) 0 c []
def Q7 (N:Nat) (c:(List Int)×(List Int)×(List Int)×(List Int)):Option Y12:=
 (Q31 N c).bind fun r=>
 bif !r.1 then
  some (((⟨#[]⟩:ByteArray),false),())
 else
  (Q53 N c).bind fun r1=>
  some ((r1.1,true),())
def Q5 (N:Nat) (c:(List Int)×(List Int)×(List Int)×(List Int)):Option Y7:=
 (Q31 N c).bind fun r=>
 bif !r.1 then
  some ((0,false),())
 else
  (Q9 N c).bind fun r1=>
  some ((r1.1.2,true),())
def Q15_K1 (N:Nat) (kx:Int→Y0→(List Int)→Option Y1) (j2:Int) (least1:Int) (c3:(List Int)×(List Int)×(List Int)×(List Int)) (out2:List Int):Option Y1:=
 chk (fitB (out2.length+1) 8)<|
 kx (iadd .i64 j2 1) c3 (out2++[least1])
def Q15_B1 (N:Nat) (kx:Int→Y0→(List Int)→Option Y1) (kx1:Int→Int→Int→Y0→(List Int)→Option Y1) (j1:Int) (least:Int) (i:Int) (c2:(List Int)×(List Int)×(List Int)×(List Int)) (out1:List Int):Option Y1:=
 bif ilt i j1 then
  chk (inB i out1.length)<|
  (Q22 N c2 i j1).bind fun r1=>
  kx1 j1 (imin least (iadd .i64 (gd out1 i.toNat 0) r1.1)) (iadd .i64 i 1) c2 out1
 else
  Q15_K1 N kx j1 least c2 out1
def Q15_L1 (N fu_:Nat) (kx:Int→Y0→(List Int)→Option Y1):=it_3_2 (Q15_B1 N kx) fu_
def Q15_L1_run (N:Nat) (kx:Int→Y0→(List Int)→Option Y1):=run5 (Q15_B1 N kx) (fun u_=>Q15_L1 N u_ kx) (fun _ _ _ _ _ _=>rfl)
def Q15_K2 (N:Nat) (out3:List Int):Option Y1:=
 some (out3,())
def Q15_B2 (N:Nat) (kx:Int→Y0→(List Int)→Option Y1) (j:Int) (c1:(List Int)×(List Int)×(List Int)×(List Int)) (out:List Int):Option Y1:=
 bif ile j (len c1.1) then
  chk (inB 0 out.length)<|
  (Q22 N c1 0 j).bind fun r=>
  Q15_L1 N N kx j (iadd .i64 (gd out 0 0) r.1) 1 c1 out
 else
  Q15_K2 N out
def Q15_L2 (N fu_:Nat):=it_1_2 (Q15_B2 N) fu_
theorem Q15_L2_succ (N fu_:Nat) (j:Int) (c1:(List Int)×(List Int)×(List Int)×(List Int)) (out:List Int):Q15_L2 N (fu_+1) j c1 out=Q15_B2 N (fun j c1 out=>Q15_L2 N fu_ j c1 out) j c1 out:=rfl
def Q15_L2_run (N:Nat):=run3 (Q15_B2 N) (Q15_L2 N) (fun _ _ _ _=>rfl)
def Q15 (N:Nat) (c:(List Int)×(List Int)×(List Int)×(List Int)):Option Y1:=
 Q15_L2 N N 1 c [0]
def Q29 (N:Nat) (c:(List Int)×(List Int)×(List Int)×(List Int)):Option Y2:=
 (Q31 N c).bind fun r=>
 bif !r.1 then
  some (([],false),())
 else
  (Q15 N c).bind fun r1=>
  some ((r1.1,true),())
def Q48_K1 (N:Nat) (out1:List Int):Option Y2:=
 some ((out1,true),())
def Q48_B1 (N:Nat) (kx:Int→Int→(List Int)→(List Int)→(List Int)→Option Y2) (v18:Int) (v19:Int) (out:List Int) (backward:List Int) (v17:List Int):Option Y2:=
 bif ilt v19 v18 then
  chk (inB v19 v17.length)<|
  chk (inB v19 backward.length)<|
  chk (inB 0 backward.length)<|
  bif ieq (iadd .i64 (gd v17 v19.toNat 0) (gd backward v19.toNat 0)) (gd backward 0 0) then
   chk (fitB (out.length+1) 8)<|
   kx v18 (iadd .i64 v19 1) (out++[v19]) backward v17
  else
   kx v18 (iadd .i64 v19 1) out backward v17
 else
  Q48_K1 N out
def Q48_L1 (N fu_:Nat):=it_2_3 (Q48_B1 N) fu_
def Q48_L1_run (N:Nat):=run5 (Q48_B1 N) (Q48_L1 N) (fun _ _ _ _ _ _=>rfl)
def Q48 (N:Nat) (c:(List Int)×(List Int)×(List Int)×(List Int)):Option Y2:=
 (Q31 N c).bind fun r=>
 bif !r.1 then
  some (([],false),())
 else
  (Q15 N c).bind fun r1=>
  (Q8 N c).bind fun r2=>
  Q48_L1 N N (len r1.1) 0 [] r2.1 r1.1
def Q18_K1 (N:Nat) (kx:Int→Y0→(List Int)→(List Int)→Option Y1) (j2:Int) (i1:Int) (c3:(List Int)×(List Int)×(List Int)×(List Int)) (out2:List Int) (forward2:List Int):Option Y1:=
 chk (fitB (out2.length+1) 8)<|
 kx (iadd .i64 j2 1) c3 (out2++[i1]) forward2
def Q18_B1 (N:Nat) (kx:Int→Y0→(List Int)→(List Int)→Option Y1) (kx1:Int→Int→Y0→(List Int)→(List Int)→Option Y1) (j1:Int) (i:Int) (c2:(List Int)×(List Int)×(List Int)×(List Int)) (out1:List Int) (forward1:List Int):Option Y1:=
 chk (inB i forward1.length)<|
 (Q22 N c2 i j1).bind fun r1=>
 chk (inB j1 forward1.length)<|
 bif ine (iadd .i64 (gd forward1 i.toNat 0) r1.1) (gd forward1 j1.toNat 0) then
  kx1 j1 (isub .i64 i 1) c2 out1 forward1
 else
  Q18_K1 N kx j1 i c2 out1 forward1
def Q18_L1 (N fu_:Nat) (kx:Int→Y0→(List Int)→(List Int)→Option Y1):=it_2_3 (Q18_B1 N kx) fu_
def Q18_L1_run (N:Nat) (kx:Int→Y0→(List Int)→(List Int)→Option Y1):=run5 (Q18_B1 N kx) (fun u_=>Q18_L1 N u_ kx) (fun _ _ _ _ _ _=>rfl)
def Q18_K2 (N:Nat) (out3:List Int):Option Y1:=
 some (out3,())
def Q18_B2 (N:Nat) (kx:Int→Y0→(List Int)→(List Int)→Option Y1) (j:Int) (c1:(List Int)×(List Int)×(List Int)×(List Int)) (out:List Int) (forward:List Int):Option Y1:=
 bif ilt j (len forward) then
  Q18_L1 N N kx j (isub .i64 j 1) c1 out forward
 else
  Q18_K2 N out
def Q18_L2 (N fu_:Nat):=it_1_3 (Q18_B2 N) fu_
def Q18_L2_run (N:Nat):=run4 (Q18_B2 N) (Q18_L2 N) (fun _ _ _ _ _=>rfl)
def Q18 (N:Nat) (c:(List Int)×(List Int)×(List Int)×(List Int)):Option Y1:=
 (Q15 N c).bind fun r=>
 Q18_L2 N N 1 c [] r.1
def Q30_K1 (N:Nat) (out1:List Int):Option Y2:=
 some ((out1,true),())
def Q30_B1 (N:Nat) (kx:Int→Int→Y0→(List Int)→(List Int)→Option Y2) (v13:Int) (v14:Int) (c1:(List Int)×(List Int)×(List Int)×(List Int)) (out:List Int) (v12:List Int):Option Y2:=
 bif ilt v14 v13 then
  chk (inB v14 v12.length)<|
  bif ieq (gd v12 v14.toNat 0) v14 then
   chk (inB v14 c1.1.length)<|
   bif ilt 0 (gd c1.1 v14.toNat 0) then
    chk (fitB (out.length+1) 8)<|
    kx v13 (iadd .i64 v14 1) c1 (out++[iadd .i64 v14 1]) v12
   else
    kx v13 (iadd .i64 v14 1) c1 out v12
  else
   kx v13 (iadd .i64 v14 1) c1 out v12
 else
  Q30_K1 N out
def Q30_L1 (N fu_:Nat):=it_2_3 (Q30_B1 N) fu_
def Q30_L1_run (N:Nat):=run5 (Q30_B1 N) (Q30_L1 N) (fun _ _ _ _ _ _=>rfl)
def Q30 (N:Nat) (c:(List Int)×(List Int)×(List Int)×(List Int)):Option Y2:=
 (Q31 N c).bind fun r=>
 bif !r.1 then
  some (([],false),())
 else
  (Q18 N c).bind fun r1=>
  Q30_L1 N N (len r1.1) 0 c [] r1.1
def Q12_K1 (N:Nat) (sum1:Int):Option Y4:=
 some (sum1,())
def Q12_B1 (N:Nat) (kx:Int→(List Int)→Int→Int→Y0→Option Y4) (i1:Int) (prices1:List Int) (sum:Int) (t:Int) (c1:(List Int)×(List Int)×(List Int)×(List Int)):Option Y4:=
 bif ilt t (len prices1) then
  chk (inB t prices1.length)<|
  chk (inB t c1.1.length)<|
  (Q21 N c1 i1 t).bind fun r=>
  kx i1 prices1 (iadd .i64 sum (imax 0 (isub .i64 (gd prices1 t.toNat 0) (imul .i64 (gd c1.1 t.toNat 0) r.1)))) (iadd .i64 t 1) c1
 else
  Q12_K1 N sum
def Q12_L1 (N fu_:Nat):=it_4_1 (Q12_B1 N) fu_
def Q12_L1_run (N:Nat):=run5 (Q12_B1 N) (Q12_L1 N) (fun _ _ _ _ _ _=>rfl)
def Q12 (N:Nat) (c:(List Int)×(List Int)×(List Int)×(List Int)) (i:Int) (prices:List Int):Option Y4:=
 Q12_L1 N N i prices 0 i c
def Q27_K1 (N:Nat) (kx:(List Int)→Int→Int→Y0→(List Int)→Option Y2) (price1:Int) (v152:List Int) (v162:Int) (v172:Int) (c3:(List Int)×(List Int)×(List Int)×(List Int)) (out2:List Int):Option Y2:=
 chk (fitB (out2.length+1) 8)<|
 kx v152 v162 (iadd .i64 v172 1) c3 (out2++[price1])
def Q27_B1 (N:Nat) (kx:(List Int)→Int→Int→Y0→(List Int)→Option Y2) (kx1:Int→Int→Int→(List Int)→Int→Int→Int→Int→Y0→(List Int)→Option Y2) (t:Int) (need:Int) (price:Int) (v151:List Int) (v161:Int) (v171:Int) (v25:Int) (v26:Int) (c2:(List Int)×(List Int)×(List Int)×(List Int)) (out1:List Int):Option Y2:=
 bif ilt v26 v25 then
  (Q21 N c2 v26 t).bind fun r1=>
  chk (inB v26 c2.2.1.length)<|
  (Q12 N c2 v26 out1).bind fun r2=>
  bif ieq v26 0 then
   kx1 t need (isub .i64 (iadd .i64 (imul .i64 need r1.1) (gd c2.2.1 v26.toNat 0)) r2.1) v151 v161 v171 v25 (iadd .i64 v26 1) c2 out1
  else
   bif ilt (isub .i64 (iadd .i64 (imul .i64 need r1.1) (gd c2.2.1 v26.toNat 0)) r2.1) price then
    kx1 t need (isub .i64 (iadd .i64 (imul .i64 need r1.1) (gd c2.2.1 v26.toNat 0)) r2.1) v151 v161 v171 v25 (iadd .i64 v26 1) c2 out1
   else
    kx1 t need price v151 v161 v171 v25 (iadd .i64 v26 1) c2 out1
 else
  Q27_K1 N kx price v151 v161 v171 c2 out1
def Q27_L1 (N fu_:Nat) (kx:(List Int)→Int→Int→Y0→(List Int)→Option Y2):=it_8_2 (Q27_B1 N kx) fu_
def Q27_L1_run (N:Nat) (kx:(List Int)→Int→Int→Y0→(List Int)→Option Y2):=Zp8 (Q27_B1 N kx) (fun u_=>Q27_L1 N u_ kx) (fun _ _ _ _ _ _ _ _ _ _ _=>rfl)
def Q27_K2 (N:Nat) (out3:List Int):Option Y2:=
 some ((out3,true),())
def Q27_B2 (N:Nat) (kx:(List Int)→Int→Int→Y0→(List Int)→Option Y2) (v15:List Int) (v16:Int) (v17:Int) (c1:(List Int)×(List Int)×(List Int)×(List Int)) (out:List Int):Option Y2:=
 bif ilt v17 v16 then
  chk (inB v17 v15.length)<|
  bif ilt 0 (gd v15 v17.toNat 0) then
   Q27_L1 N N kx v17 (gd v15 v17.toNat 0) 0 v15 v16 v17 (iadd .i64 v17 1) 0 c1 out
  else
   chk (fitB (out.length+1) 8)<|
   kx v15 v16 (iadd .i64 v17 1) c1 (out++[0])
 else
  Q27_K2 N out
def Q27_L2 (N fu_:Nat):=it_3_2 (Q27_B2 N) fu_
def Q27_L2_run (N:Nat):=run5 (Q27_B2 N) (Q27_L2 N) (fun _ _ _ _ _ _=>rfl)
def Q27 (N:Nat) (c:(List Int)×(List Int)×(List Int)×(List Int)):Option Y2:=
 (Q31 N c).bind fun r=>
 bif !r.1 then
  some (([],false),())
 else
  Q27_L2 N N c.1 (len c.1) 0 c []
def Q52_K1 (N:Nat) (word1:ByteArray) (numbers1:List Int) (l1:Y0×(List Int)×Int):Option Y12:=
 bif ilt 0 (len numbers1) then
  some (((⟨#[]⟩:ByteArray),false),())
 else
  bif Go.Rx.seq word1 (⟨#[110,111,119]⟩:ByteArray) then
   (Q62 N l1.2.2 true).bind fun r6=>
   some ((r6.1.1,r6.1.2),())
  else
   bif Go.Rx.seq word1 (⟨#[115,116,111,99,107]⟩:ByteArray) then
    (Q47 N l1).bind fun r7=>
    (Q62 N r7.1.1 r7.1.2).bind fun r8=>
    some ((r8.1.1,r8.1.2),())
   else
    bif Go.Rx.seq word1 (⟨#[99,111,115,116]⟩:ByteArray) then
     (Q24 N l1).bind fun r9=>
     (Q62 N r9.1.1 r9.1.2).bind fun r10=>
     some ((r10.1.1,r10.1.2),())
    else
     bif Go.Rx.seq word1 (⟨#[97,104,101,97,100]⟩:ByteArray) then
      (Q23 N l1).bind fun r11=>
      (Q62 N r11.1.1 r11.1.2).bind fun r12=>
      some ((r12.1.1,r12.1.2),())
     else
      bif Go.Rx.seq word1 (⟨#[115,104,111,114,116]⟩:ByteArray) then
       (Q46 N l1).bind fun r13=>
       (Q61 N r13.1.1 r13.1.2).bind fun r14=>
       some ((r14.1.1,r14.1.2),())
      else
       bif Go.Rx.seq word1 (⟨#[108,101,102,116]⟩:ByteArray) then
        (Q41 N l1).bind fun r15=>
        (Q61 N r15.1.1 r15.1.2).bind fun r16=>
        some ((r16.1.1,r16.1.2),())
       else
        bif Go.Rx.seq word1 (⟨#[112,108,97,110]⟩:ByteArray) then
         (Q61 N l1.2.1 true).bind fun r17=>
         some ((r17.1.1,r17.1.2),())
        else
         bif Go.Rx.seq word1 (⟨#[99,97,115,101]⟩:ByteArray) then
          (Q7 N l1.1).bind fun r18=>
          some ((r18.1.1,r18.1.2),())
         else
          bif Go.Rx.seq word1 (⟨#[98,101,115,116]⟩:ByteArray) then
           (Q5 N l1.1).bind fun r19=>
           (Q62 N r19.1.1 r19.1.2).bind fun r20=>
           some ((r20.1.1,r20.1.2),())
          else
           bif Go.Rx.seq word1 (⟨#[116,97,98,108,101]⟩:ByteArray) then
            (Q29 N l1.1).bind fun r21=>
            (Q61 N r21.1.1 r21.1.2).bind fun r22=>
            some ((r22.1.1,r22.1.2),())
           else
            bif Go.Rx.seq word1 (⟨#[116,117,114,110,115]⟩:ByteArray) then
             (Q48 N l1.1).bind fun r23=>
             (Q61 N r23.1.1 r23.1.2).bind fun r24=>
             some ((r24.1.1,r24.1.2),())
            else
             bif Go.Rx.seq word1 (⟨#[104,111,114,105,122,111,110,115]⟩:ByteArray) then
              (Q30 N l1.1).bind fun r25=>
              (Q61 N r25.1.1 r25.1.2).bind fun r26=>
              some ((r26.1.1,r26.1.2),())
             else
              bif Go.Rx.seq word1 (⟨#[112,114,105,99,101,115]⟩:ByteArray) then
               (Q27 N l1.1).bind fun r27=>
               (Q61 N r27.1.1 r27.1.2).bind fun r28=>
               some ((r28.1.1,r28.1.2),())
              else
               some (((⟨#[]⟩:ByteArray),false),())
def Q52 (N:Nat) (l:Y0×(List Int)×Int) (word:ByteArray) (numbers:List Int):Option Y12:=
 bif ieq (len numbers) 1 then
  bif Go.Rx.seq word (⟨#[114,117,108,101]⟩:ByteArray) then
   chk (inB 0 numbers.length)<|
   (Q44 N l.1 (gd numbers 0 0)).bind fun r=>
   (Q61 N r.1.1 r.1.2).bind fun r1=>
   some ((r1.1.1,r1.1.2),())
  else
   bif Go.Rx.seq word (⟨#[103,97,112]⟩:ByteArray) then
    chk (inB 0 numbers.length)<|
    (Q43 N l.1 (gd numbers 0 0)).bind fun r2=>
    (Q62 N r2.1.1 r2.1.2).bind fun r3=>
    some ((r3.1.1,r3.1.2),())
   else
    bif Go.Rx.seq word (⟨#[102,114,101,115,104]⟩:ByteArray) then
     chk (inB 0 numbers.length)<|
     (Q6 N l.1 (gd numbers 0 0)).bind fun r4=>
     (Q62 N r4.1.2.1 r4.1.2.2).bind fun r5=>
     some ((r5.1.1,r5.1.2),())
    else
     Q52_K1 N word numbers l
 else
  Q52_K1 N word numbers l
def Q57_K1 (N:Nat) (words1:List ByteArray) (l2:Y0×(List Int)×Int) (v41:Y0×(List Int)×Int) (numbers1:List Int):Option Y15:=
 chk (inB 0 words1.length)<|
 (impl_actOf N (gd words1 0 (⟨#[]⟩:ByteArray)) numbers1).bind fun r2=>
 bif r2.1.2 then
  (Q2 N l2 r2.1.1).bind fun r3=>
  bif r3.1.2 then
   (Q50 N r3.1.1 r2.1.1.1).bind fun r4=>
   bif r4.1.2 then
    some ((r3.1.1,r4.1.1),())
   else
    some ((l2,(⟨#[63]⟩:ByteArray)),())
  else
   some ((l2,(⟨#[63]⟩:ByteArray)),())
 else
  chk (inB 0 words1.length)<|
  (Q52 N l2 (gd words1 0 (⟨#[]⟩:ByteArray)) numbers1).bind fun r5=>
  bif !r5.1.2 then
   some ((l2,(⟨#[63]⟩:ByteArray)),())
  else
   some ((l2,r5.1.1),())
def Q57_B1 (N:Nat) (kx:Y9→Y9→Int→Int→Y3→Y3→(List Int)→Option Y15) (words:List ByteArray) (v24:List ByteArray) (v25:Int) (v26:Int) (l1:Y0×(List Int)×Int) (v4:Y0×(List Int)×Int) (numbers:List Int):Option Y15:=
 bif ilt v26 v25 then
  chk (inB v26 v24.length)<|
  (Q42 N (gd v24 v26.toNat (⟨#[]⟩:ByteArray))).bind fun r1=>
  bif !r1.1.2 then
   some ((l1,(⟨#[63]⟩:ByteArray)),())
  else
   chk (fitB (numbers.length+1) 8)<|
   kx words v24 v25 (iadd .i64 v26 1) l1 v4 (numbers++[r1.1.1])
 else
  Q57_K1 N words l1 v4 numbers
def Q57_L1 (N fu_:Nat):=it_4_3 (Q57_B1 N) fu_
def Q57_L1_run (N:Nat):=run7 (Q57_B1 N) (Q57_L1 N) (fun _ _ _ _ _ _ _ _=>rfl)
def Q57 (N:Nat) (l:Y0×(List Int)×Int) (line:ByteArray):Option Y15:=
 (strings_Split N line (⟨#[32]⟩:ByteArray)).bind fun r=>
 chk (cutB 1 (len r.1) r.1.length)<|
 Q57_L1 N N r.1 (List.take ((len r.1).toNat - 1) (List.drop 1 r.1)) (((len r.1).toNat - 1:Nat):Int) 0 l (([],([],([],[]))),([],0)) []
def Q4 (N:Nat) (l:ByteArray×ByteArray×Int) (e:ByteArray×ByteArray):Option (((ByteArray×ByteArray×Int)×Int)×Unit):=
 (Q34 N l).bind fun r=>
 bif !r.1 then
  some ((l,1),())
 else
  (Q35 N e).bind fun r1=>
  bif !r1.1 then
   some ((l,1),())
  else
   (Q25 N l.2.2 e).bind fun r2=>
   bif !r2.1.2 then
    some ((l,2),())
   else
    chk (sfit l.2.1 r2.1.1)<|
    some (((l.1,(scat l.2.1 r2.1.1,iadd .i64 l.2.2 1)),0),())
def Q26 (N:Nat) (c:Y3×ByteArray×ByteArray×Int) (line:ByteArray):Option ((Y14×ByteArray)×Unit):=
 (Q38 N c.1).bind fun r=>
 (Q33 N c).bind fun r1=>
 bif !r1.1 then
  some (((r.1,c.2),(⟨#[110,111]⟩:ByteArray)),())
 else
  (Q58 N line).bind fun r2=>
  bif !r2.1 then
   some (((r.1,c.2),(⟨#[98,97,100]⟩:ByteArray)),())
  else
   bif ieq c.2.2.2 60 then
    some (((r.1,c.2),(⟨#[102,117,108,108]⟩:ByteArray)),())
   else
    (Q57 N r.1 line).bind fun r3=>
    (Q4 N c.2 (line,r3.1.2)).bind fun r4=>
    some (((r3.1.1,r4.1.1),r3.1.2),())
def Q45_K1 (N:Nat) (out1:List ByteArray):Option Y16:=
 some ((out1,true),())
def Q45_B1 (N:Nat) (kx:Int→Int→Y14→Y9→Y9→Option Y16) (v28:Int) (v29:Int) (c1:Y3×ByteArray×ByteArray×Int) (out:List ByteArray) (v27:List ByteArray):Option Y16:=
 bif ilt v29 v28 then
  chk (inB v29 v27.length)<|
  (Q26 N c1 (gd v27 v29.toNat (⟨#[]⟩:ByteArray))).bind fun r2=>
  chk (fitB (out.length+1) 16)<|
  kx v28 (iadd .i64 v29 1) r2.1.1 (out++[r2.1.2]) v27
 else
  Q45_K1 N out
def Q45_L1 (N fu_:Nat):=it_2_3 (Q45_B1 N) fu_
def Q45_L1_run (N:Nat):=run5 (Q45_B1 N) (Q45_L1 N) (fun _ _ _ _ _ _=>rfl)
def Q45 (N:Nat) (c:Y3×ByteArray×ByteArray×Int) (text:ByteArray):Option Y16:=
 (strings_Split N text (⟨#[10]⟩:ByteArray)).bind fun r=>
 (Q33 N c).bind fun r1=>
 bif !r1.1 then
  some (([],false),())
 else
  bif ilt 4000 (slen text) then
   some (([],false),())
  else
   bif ilt 30 (len r.1) then
    some (([],false),())
   else
    Q45_L1 N N (len r.1) 0 c [] r.1
def Q73_K1 (N:Nat):Option Y5:=
 some (true,())
def Q73_B1 (N:Nat) (kx:Y9→Y9→Int→Option Y5) (a1:List ByteArray) (b1:List ByteArray) (i:Int):Option Y5:=
 bif ilt i (len a1) then
  chk (inB i a1.length)<|
  chk (inB i b1.length)<|
  bif !(Go.Rx.seq (gd a1 i.toNat (⟨#[]⟩:ByteArray)) (gd b1 i.toNat (⟨#[]⟩:ByteArray))) then
   some (false,())
  else
   kx a1 b1 (iadd .i64 i 1)
 else
  Q73_K1 N
def Q73_L1 (N fu_:Nat):=it_3_0 (Q73_B1 N) fu_
def Q73_L1_run (N:Nat):=run3 (Q73_B1 N) (Q73_L1 N) (fun _ _ _ _=>rfl)
def Q73 (N:Nat) (a:List ByteArray) (b:List ByteArray):Option Y5:=
 bif ine (len a) (len b) then
  some (false,())
 else
  Q73_L1 N N a b 0
def Q80_K1 (N:Nat) (out1:ByteArray):Option Y8:=
 chk (sfit (⟨#[109]⟩:ByteArray) out1)<|
 some (scat (⟨#[109]⟩:ByteArray) out1,())
def Q80_B1 (N:Nat) (kx2:Int→ByteArray→Option Y8) (kx1:Int) (out:ByteArray):Option Y8:=
 bif ilt 0 kx1 then
  chk (ine 10 0)<|
  chk (sfit (bstr [icv .u8 (iadd .i64 48 (irem kx1 10))]) out)<|
  chk (ine 10 0)<|
  kx2 (iquo .i64 kx1 10) (scat (bstr [icv .u8 (iadd .i64 48 (irem kx1 10))]) out)
 else
  Q80_K1 N out
def Q80_L1 (N fu_:Nat):=it_2_0 (Q80_B1 N) fu_
theorem Q80_L1_succ (N fu_:Nat) (kx1:Int) (out:ByteArray):Q80_L1 N (fu_+1) kx1 out=Q80_B1 N (fun kx1 out=>Q80_L1 N fu_ kx1 out) kx1 out:=rfl
def Q80 (N:Nat) (kx:Int):Option Y8:=
 bif ile kx 0 then
  some ((⟨#[109,48]⟩:ByteArray),())
 else
  Q80_L1 N N kx (⟨#[]⟩:ByteArray)
def Q79_K1 (N:Nat) (kx3:Int) (a2:List ByteArray):Option (Int×Y9):=
 some (kx3,a2)
def Q79_B1 (N:Nat) (kx2:Int→Int→Y9→Option (Int×Y9)) (kx1:Int) (i:Int) (a1:List ByteArray):Option (Int×Y9):=
 bif ilt i (len a1) then
  (Q80 N kx1).bind fun r=>
  chk (inB i a1.length)<|
  kx2 (iadd .i64 kx1 1) (iadd .i64 i 1) (List.set a1 i.toNat r.1)
 else
  Q79_K1 N kx1 a1
def Q79_L1 (N fu_:Nat):=it_2_1 (Q79_B1 N) fu_
def Q79_L1_run (N:Nat):=run3 (Q79_B1 N) (Q79_L1 N) (fun _ _ _ _=>rfl)
def Q79 (N:Nat) (a:List ByteArray) (kx:Int):Option (Int×Y9):=
 Q79_L1 N N kx 0 a
def Q74_K1 (N:Nat) (kx3:Int):Option Y4:=
 some (kx3,())
def Q74_B1 (N:Nat) (kx2:Y9→Int→Int→Option Y4) (a1:List ByteArray) (kx1:Int) (i:Int):Option Y4:=
 bif ilt i (len a1) then
  chk (inB i a1.length)<|
  (Q80 N kx1).bind fun r=>
  bif !(Go.Rx.seq (gd a1 i.toNat (⟨#[]⟩:ByteArray)) r.1) then
   some ((-1),())
  else
   kx2 a1 (iadd .i64 kx1 1) (iadd .i64 i 1)
 else
  Q74_K1 N kx1
def Q74_L1 (N fu_:Nat):=it_3_0 (Q74_B1 N) fu_
def Q74_L1_run (N:Nat):=run3 (Q74_B1 N) (Q74_L1 N) (fun _ _ _ _=>rfl)
def Q74 (N:Nat) (a:List ByteArray) (kx:Int):Option Y4:=
 Q74_L1 N N a kx 0
def laws_FnExactRunScript (N:Nat) (aC:Y3×ByteArray×ByteArray×Int) (aText:ByteArray):Option Y5:=
 bif ilt 1048576 (slen aText) then
  some (true,())
 else
  (Q82 N aC 1048576).bind fun r=>
  bif ilt r.1 0 then
   some (true,())
  else
   (Q87 N aC).bind fun r1=>
   (Q106 N r1.1 aText).bind fun r2=>
   (Q87 N aC).bind fun r3=>
   (Q45 N r3.1 aText).bind fun r4=>
   (Q73 N r4.1.1 r2.1.1).bind fun r5=>
   bif !r5.1 then
    some (false,())
   else
    bif !(Go.Rx.beq r4.1.2 r2.1.2) then
     some (false,())
    else
     (Q87 N aC).bind fun r6=>
     (Q69 N r3.1 r6.1).bind fun r7=>
     bif !r7.1 then
      some (false,())
     else
      (Q76 N r3.1 1).bind fun r8=>
      bif ilt r8.1 0 then
       some (false,())
      else
       (Q73 N r4.1.1 r2.1.1).bind fun r9=>
       bif !r9.1 then
        some (false,())
       else
        bif !(Go.Rx.beq r4.1.2 r2.1.2) then
         some (false,())
        else
         (Q79 N r4.1.1 1).bind fun r10=>
         (Q74 N r10.2 1).bind fun r11=>
         bif ilt r11.1 0 then
          some (false,())
         else
          bif ine r11.1 r10.1 then
           some (false,())
          else
           (Q87 N aC).bind fun r12=>
           (Q45 N r12.1 aText).bind fun r13=>
           (Q73 N r13.1.1 r2.1.1).bind fun r14=>
           bif !r14.1 then
            some (false,())
           else
            bif !(Go.Rx.beq r13.1.2 r2.1.2) then
             some (false,())
            else
             (Q74 N r10.2 1).bind fun r15=>
             bif ilt r15.1 0 then
              some (false,())
             else
              bif ine r15.1 r10.1 then
               some (false,())
              else
               some (true,())
end Px
end Go.Rx
