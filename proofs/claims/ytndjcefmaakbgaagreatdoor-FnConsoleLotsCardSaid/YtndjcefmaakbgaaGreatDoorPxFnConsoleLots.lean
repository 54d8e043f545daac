/- This text defines the plain functions that the Go functions behind FnConsoleLots compute; no condition. -/
import Derived.Test.YtndjcefmaakbgaaGreatDoorRxd
set_option linter.unusedVariables false
set_option linter.unusedSimpArgs false
namespace Go.Rx
namespace Px
abbrev Y0:=(List Int)×(List Int)×(List Int)×(List Int)
abbrev Y1:=(List Int)×Unit
abbrev Y2:=Y0×(List Int)×Int
abbrev Y3:=(List Int)×Int×Int
abbrev Y4:=((List Int)×Bool)×Unit
abbrev Y5:=Int×Unit
abbrev Y6:=Bool×Unit
abbrev Y7:=((List Int)×Int)×Unit
abbrev Y8:=(ByteArray×Bool)×Unit
abbrev Y9:=(Int×Bool)×Unit
abbrev Y10:=List (List Int)
abbrev Y11:=List ByteArray
abbrev Y12:=ByteArray×Unit
abbrev Y13:=Y0×(List Int)×Unit
abbrev Y14:=(List Int)×Y3
abbrev Y15:=ByteArray×ByteArray
abbrev Y16:=(Int×Int×Int)×Unit
abbrev Y17:=Int×Int×Int×Unit
abbrev Y18:=Y10×Unit
abbrev Y19:=Int×Int×Unit
abbrev Y20:=((List Y15)×(List Int))×Unit
abbrev Y21:=(Y2×ByteArray)×Unit
abbrev Y22:=(List Int)×Int×Int×Unit
abbrev Y23:=Y0×(List Int)×(List Int)×Unit
def Q69 (N:Nat) (code:List Int):Option Y6:=
  some (ilt 65536 (len code),())
def Q97 (N:Nat) (x:Int) (a:Int) (b:Int):Option Y6:=
  bif ile a x then
    some (ile x b,())
  else
    some (false,())
def Q109_K1 (N:Nat) (row2:List Int) (n2:Int):Option Y6:=
  some (ieq (len row2) n2,())
def Q109_B1 (N:Nat) (kx:(List Int)→Int→Int→Int→Option Y6) (row1:List Int) (n1:Int) (most1:Int) (i:Int):Option Y6:=
  bif ilt i (len row1) then
    chk (inB i row1.length)<|
    (Q97 N (gd row1 i.toNat 0) 0 most1).bind fun r=>
    bif !r.1 then
      some (false,())
    else
      kx row1 n1 most1 (iadd .i64 i 1)
  else
    Q109_K1 N row1 n1
def Q109_L1 (N fu_:Nat) (row1:List Int) (n1:Int) (most1:Int) (i:Int):Option Y6:=
  iterK fu_ (fun kx (v_:((List Int)×Int×Int×Int×Unit)×(Unit))=>Q109_B1 N (fun row1 n1 most1 i=>kx ((row1,n1,most1,i,()),())) v_.1.1 v_.1.2.1 v_.1.2.2.1 v_.1.2.2.2.1) ((row1,n1,most1,i,()),())
theorem Q109_L1_run (N:Nat) (row1:Nat→(List Int)) (n1:Nat→Int) (most1:Nat→Int) (i:Nat→Int) (n_:Nat) {res_:Option Y6} (hstep_:∀j_,j_<n_→∀kx_,Q109_B1 N kx_ (row1 j_) (n1 j_) (most1 j_) (i j_)=kx_ (row1 (j_+1)) (n1 (j_+1)) (most1 (j_+1)) (i (j_+1))) (hend_:∀kx_,Q109_B1 N kx_ (row1 n_) (n1 n_) (most1 n_) (i n_)=res_) (fu_:Nat) (hm_:n_<fu_):Q109_L1 N fu_ (row1 0) (n1 0) (most1 0) (i 0)=res_:=by
  exact loop_run (L:=fun fu_ (x_:(List Int)×Int×Int×Int)=>Q109_L1 N fu_ x_.1 x_.2.1 x_.2.2.1 x_.2.2.2) (B:=fun kx_ x_=>Q109_B1 N (fun row1 n1 most1 i=>kx_ (row1,n1,most1,i)) x_.1 x_.2.1 x_.2.2.1 x_.2.2.2) (fun _ _=>rfl) (fun j_=>(row1 j_,n1 j_,most1 j_,i j_)) n_ (fun j_ hi_ kx_=>hstep_ j_ hi_ _) (fun kx_=>hend_ _) fu_ hm_
def Q109 (N:Nat) (row:List Int) (n:Int) (most:Int):Option Y6:=
  Q109_L1 N N row n most 0
def Q107 (N:Nat) (c:(List Int)×(List Int)×(List Int)×(List Int)):Option Y6:=
  bif ile (len c.1) 8 then
    (Q109 N c.1 (len c.1) 20).bind fun r=>
    bif r.1 then
      (Q109 N c.2.1 (len c.1) 99).bind fun r1=>
      bif r1.1 then
        (Q109 N c.2.2.1 (len c.1) 9).bind fun r2=>
        bif r2.1 then
          (Q109 N c.2.2.2 (len c.1) 9).bind fun r3=>
          some (r3.1,())
        else
          some (false,())
      else
        some (false,())
    else
      some (false,())
  else
    some (false,())
def Q96_K1 (N:Nat) (sum1:Int):Option Y5:=
  some (sum1,())
def Q96_B1 (N:Nat) (kx:Int→Int→Int→Y2→Option Y5) (many1:Int) (sum:Int) (t:Int) (l1:Y0×(List Int)×Int):Option Y5:=
  bif ilt t many1 then
    chk (inB t l1.2.1.length)<|
    chk (inB t l1.1.1.length)<|
    kx many1 (isub .i64 (iadd .i64 sum (gd l1.2.1 t.toNat 0)) (gd l1.1.1 t.toNat 0)) (iadd .i64 t 1) l1
  else
    Q96_K1 N sum
def Q96_L1 (N fu_:Nat) (many1:Int) (sum:Int) (t:Int) (l1:Y0×(List Int)×Int):Option Y5:=
  iterK fu_ (fun kx (v_:Y17×(Y2×Unit))=>Q96_B1 N (fun many1 sum t l1=>kx ((many1,sum,t,()),(l1,()))) v_.1.1 v_.1.2.1 v_.1.2.2.1 v_.2.1) ((many1,sum,t,()),(l1,()))
theorem Q96_L1_run (N:Nat) (many1:Nat→Int) (sum:Nat→Int) (t:Nat→Int) (l1:Nat→Y2) (n_:Nat) {res_:Option Y5} (hstep_:∀j_,j_<n_→∀kx_,Q96_B1 N kx_ (many1 j_) (sum j_) (t j_) (l1 j_)=kx_ (many1 (j_+1)) (sum (j_+1)) (t (j_+1)) (l1 (j_+1))) (hend_:∀kx_,Q96_B1 N kx_ (many1 n_) (sum n_) (t n_) (l1 n_)=res_) (fu_:Nat) (hm_:n_<fu_):Q96_L1 N fu_ (many1 0) (sum 0) (t 0) (l1 0)=res_:=by
  exact loop_run (L:=fun fu_ (x_:Int×Int×Int×Y2)=>Q96_L1 N fu_ x_.1 x_.2.1 x_.2.2.1 x_.2.2.2) (B:=fun kx_ x_=>Q96_B1 N (fun many1 sum t l1=>kx_ (many1,sum,t,l1)) x_.1 x_.2.1 x_.2.2.1 x_.2.2.2) (fun _ _=>rfl) (fun j_=>(many1 j_,sum j_,t j_,l1 j_)) n_ (fun j_ hi_ kx_=>hstep_ j_ hi_ _) (fun kx_=>hend_ _) fu_ hm_
def Q96 (N:Nat) (l:Y0×(List Int)×Int) (many:Int):Option Y5:=
  Q96_L1 N N many 0 0 l
def Q90_K1 (N:Nat):Option Y6:=
  some (true,())
def Q90_B1 (N:Nat) (kx:Int→Y2→Option Y6) (t:Int) (l1:Y0×(List Int)×Int):Option Y6:=
  bif ile t l1.2.2 then
    (Q96 N l1 t).bind fun r3=>
    bif ilt r3.1 0 then
      some (false,())
    else
      kx (iadd .i64 t 1) l1
  else
    Q90_K1 N
def Q90_L1 (N fu_:Nat) (t:Int) (l1:Y0×(List Int)×Int):Option Y6:=
  iterK fu_ (fun kx (v_:Y5×(Y2×Unit))=>Q90_B1 N (fun t l1=>kx ((t,()),(l1,()))) v_.1.1 v_.2.1) ((t,()),(l1,()))
theorem Q90_L1_run (N:Nat) (t:Nat→Int) (l1:Nat→Y2) (n_:Nat) {res_:Option Y6} (hstep_:∀j_,j_<n_→∀kx_,Q90_B1 N kx_ (t j_) (l1 j_)=kx_ (t (j_+1)) (l1 (j_+1))) (hend_:∀kx_,Q90_B1 N kx_ (t n_) (l1 n_)=res_) (fu_:Nat) (hm_:n_<fu_):Q90_L1 N fu_ (t 0) (l1 0)=res_:=by
  exact loop_run (L:=fun fu_ (x_:Int×Y2)=>Q90_L1 N fu_ x_.1 x_.2) (B:=fun kx_ x_=>Q90_B1 N (fun t l1=>kx_ (t,l1)) x_.1 x_.2) (fun _ _=>rfl) (fun j_=>(t j_,l1 j_)) n_ (fun j_ hi_ kx_=>hstep_ j_ hi_ _) (fun kx_=>hend_ _) fu_ hm_
def Q90 (N:Nat) (l:Y0×(List Int)×Int):Option Y6:=
  (Q107 N l.1).bind fun r=>
  bif !r.1 then
    some (false,())
  else
    (Q109 N l.2.1 (len l.1.1) 200).bind fun r1=>
    bif !r1.1 then
      some (false,())
    else
      (Q97 N l.2.2 0 (len l.1.1)).bind fun r2=>
      bif !r2.1 then
        some (false,())
      else
        Q90_L1 N N 1 l
def Q77_K1 (N:Nat) (b:Int) (c1:(List Int)×Int×Int):Option (Int×Y3):=
  bif ile (iadd .i64 c1.2.1 1) (len c1.1) then
    some (b,(c1.1,(iadd .i64 c1.2.1 1,iadd .u64 (iadd .u64 (imul .u64 c1.2.2 6364136223846793005) (icv .u64 b)) 462197)))
  else
    chk (ile 0 40)<|
    some (icv .i64 (iand .u64 (ishr .u64 (iadd .u64 (iadd .u64 (imul .u64 c1.2.2 6364136223846793005) (icv .u64 b)) 462197) 40) 255),(c1.1,(iadd .i64 c1.2.1 1,iadd .u64 (iadd .u64 (imul .u64 c1.2.2 6364136223846793005) (icv .u64 b)) 462197)))
def Q77 (N:Nat) (c:(List Int)×Int×Int):Option (Int×Y3):=
  bif ilt c.2.1 (len c.1) then
    chk (inB c.2.1 c.1.length)<|
    Q77_K1 N (icv .i64 (gd c.1 c.2.1.toNat 0)) c
  else
    Q77_K1 N 0 c
def Q79 (N:Nat) (c:(List Int)×Int×Int) (n:Int):Option (Int×Y3):=
  bif ile n 1 then
    some (0,c)
  else
    (Q77 N c).bind fun r=>
    bif ilt 200 n then
      (Q77 N r.2).bind fun r1=>
      chk (ine n 0)<|
      some (irem (iadd .i64 (imul .i64 r.1 256) r1.1) n,r1.2)
    else
      chk (ine n 0)<|
      some (irem r.1 n,r.2)
def Q74 (N:Nat) (c:(List Int)×Int×Int) (list:List Int):Option (Int×Y3):=
  (Q79 N c (len list)).bind fun r=>
  chk (inB r.1 list.length)<|
  some (gd list r.1.toNat 0,r.2)
def Q98 (N:Nat) (a:Int) (b:Int):Option Y5:=
  bif ilt a b then
    some (a,())
  else
    some (b,())
def Q78 (N:Nat) (c:(List Int)×Int×Int) (n:Int):Option (Bool×Y3):=
  (Q79 N c n).bind fun r=>
  some (ieq r.1 0,r.2)
def Q80_K1 (N:Nat) (kx1:Int→Bool→Int→Int→Int→Int→Y3→Y0→Y0→Option (Y0×Y3)) (n1:Int) (same1:Bool) (setup1:Int) (unit1:Int) (hold1:Int) (t1:Int) (c2:(List Int)×Int×Int) (v41:(List Int)×(List Int)×(List Int)×(List Int)) (kx2:(List Int)×(List Int)×(List Int)×(List Int)):Option (Y0×Y3):=
  (Q74 N c2 [0,1,2,3,5,8]).bind fun r9=>
  chk (fitB (kx2.1.length+1) 8)<|
  chk (fitB (kx2.2.1.length+1) 8)<|
  chk (fitB (kx2.2.2.1.length+1) 8)<|
  chk (fitB (kx2.2.2.2.length+1) 8)<|
  kx1 n1 same1 setup1 unit1 hold1 (iadd .i64 t1 1) r9.2 v41 (kx2.1++[r9.1],(kx2.2.1++[setup1],(kx2.2.2.1++[unit1],kx2.2.2.2++[hold1])))
def Q80_K2 (N:Nat) (c5:(List Int)×Int×Int) (v44:(List Int)×(List Int)×(List Int)×(List Int)) (kx6:(List Int)×(List Int)×(List Int)×(List Int)):Option (Y0×Y3):=
  some (kx6,c5)
def Q80_B1 (N:Nat) (kx5:Y3→Y0→Y0→Option (Y0×Y3)) (c4:(List Int)×Int×Int) (v43:(List Int)×(List Int)×(List Int)×(List Int)) (kx4:(List Int)×(List Int)×(List Int)×(List Int)):Option (Y0×Y3):=
  bif ilt (len kx4.1) 9 then
    chk (fitB (kx4.1.length+1) 8)<|
    chk (fitB (kx4.2.1.length+1) 8)<|
    chk (fitB (kx4.2.2.1.length+1) 8)<|
    chk (fitB (kx4.2.2.2.length+1) 8)<|
    kx5 c4 v43 (kx4.1++[1],(kx4.2.1++[1],(kx4.2.2.1++[1],kx4.2.2.2++[1])))
  else
    Q80_K2 N c4 v43 kx4
def Q80_L1 (N fu_:Nat) (c4:(List Int)×Int×Int) (v43:(List Int)×(List Int)×(List Int)×(List Int)) (kx4:(List Int)×(List Int)×(List Int)×(List Int)):Option (Y0×Y3):=
  iterK fu_ (fun kx5 (v_:(Unit)×(Y3×Y0×Y0×Unit))=>Q80_B1 N (fun c4 v43 kx4=>kx5 ((),(c4,v43,kx4,()))) v_.2.1 v_.2.2.1 v_.2.2.2.1) ((),(c4,v43,kx4,()))
theorem Q80_L1_succ (N fu_:Nat) (c4:(List Int)×Int×Int) (v43:(List Int)×(List Int)×(List Int)×(List Int)) (kx4:(List Int)×(List Int)×(List Int)×(List Int)):Q80_L1 N (fu_+1) c4 v43 kx4=Q80_B1 N (fun c4 v43 kx4=>Q80_L1 N fu_ c4 v43 kx4) c4 v43 kx4:=rfl
def Q80_K3 (N:Nat) (n2:Int) (c3:(List Int)×Int×Int) (v42:(List Int)×(List Int)×(List Int)×(List Int)) (kx3:(List Int)×(List Int)×(List Int)×(List Int)):Option (Y0×Y3):=
  bif ilt 0 n2 then
    (Q79 N c3 n2).bind fun r10=>
    (Q79 N r10.2 60).bind fun r11=>
    bif ieq r11.1 0 then
      (Q74 N r11.2 [(-1),20,21,4611686018427387904]).bind fun r12=>
      chk (inB r10.1 kx3.1.length)<|
      some ((List.set kx3.1 r10.1.toNat r12.1,kx3.2),r12.2)
    else
      bif ieq r11.1 1 then
        (Q74 N r11.2 [(-1),99,100]).bind fun r13=>
        chk (inB r10.1 kx3.2.1.length)<|
        some ((kx3.1,(List.set kx3.2.1 r10.1.toNat r13.1,kx3.2.2)),r13.2)
      else
        bif ieq r11.1 2 then
          (Q74 N r11.2 [(-1),9,10]).bind fun r14=>
          chk (inB r10.1 kx3.2.2.1.length)<|
          some ((kx3.1,(kx3.2.1,(List.set kx3.2.2.1 r10.1.toNat r14.1,kx3.2.2.2))),r14.2)
        else
          bif ieq r11.1 3 then
            (Q74 N r11.2 [(-1),9,10]).bind fun r15=>
            chk (inB r10.1 kx3.2.2.2.length)<|
            some ((kx3.1,(kx3.2.1,(kx3.2.2.1,List.set kx3.2.2.2 r10.1.toNat r15.1))),r15.2)
          else
            bif ieq r11.1 4 then
              chk (fitB (kx3.2.2.1.length+1) 8)<|
              some ((kx3.1,(kx3.2.1,(kx3.2.2.1++[1],kx3.2.2.2))),r11.2)
            else
              bif ieq r11.1 5 then
                Q80_L1 N N r11.2 v42 kx3
              else
                some (kx3,r11.2)
  else
    some (kx3,c3)
def Q80_B2 (N:Nat) (kx1:Int→Bool→Int→Int→Int→Int→Y3→Y0→Y0→Option (Y0×Y3)) (n:Int) (same:Bool) (setup:Int) (unit:Int) (hold:Int) (t:Int) (c1:(List Int)×Int×Int) (v4:(List Int)×(List Int)×(List Int)×(List Int)) (kx:(List Int)×(List Int)×(List Int)×(List Int)):Option (Y0×Y3):=
  bif ilt t n then
    bif !same then
      (Q74 N c1 [0,2,5,9,14,30]).bind fun r6=>
      (Q79 N r6.2 5).bind fun r7=>
      (Q79 N r7.2 4).bind fun r8=>
      Q80_K1 N kx1 n same r6.1 r7.1 r8.1 t r8.2 v4 kx
    else
      Q80_K1 N kx1 n same setup unit hold t c1 v4 kx
  else
    Q80_K3 N n c1 v4 kx
def Q80_L2 (N fu_:Nat) (n:Int) (same:Bool) (setup:Int) (unit:Int) (hold:Int) (t:Int) (c1:(List Int)×Int×Int) (v4:(List Int)×(List Int)×(List Int)×(List Int)) (kx:(List Int)×(List Int)×(List Int)×(List Int)):Option (Y0×Y3):=
  iterK fu_ (fun kx1 (v_:(Int×Bool×Int×Int×Int×Int×Unit)×(Y3×Y0×Y0×Unit))=>Q80_B2 N (fun n same setup unit hold t c1 v4 kx=>kx1 ((n,same,setup,unit,hold,t,()),(c1,v4,kx,()))) v_.1.1 v_.1.2.1 v_.1.2.2.1 v_.1.2.2.2.1 v_.1.2.2.2.2.1 v_.1.2.2.2.2.2.1 v_.2.1 v_.2.2.1 v_.2.2.2.1) ((n,same,setup,unit,hold,t,()),(c1,v4,kx,()))
theorem Q80_L2_succ (N fu_:Nat) (n:Int) (same:Bool) (setup:Int) (unit:Int) (hold:Int) (t:Int) (c1:(List Int)×Int×Int) (v4:(List Int)×(List Int)×(List Int)×(List Int)) (kx:(List Int)×(List Int)×(List Int)×(List Int)):Q80_L2 N (fu_+1) n same setup unit hold t c1 v4 kx=Q80_B2 N (fun n same setup unit hold t c1 v4 kx=>Q80_L2 N fu_ n same setup unit hold t c1 v4 kx) n same setup unit hold t c1 v4 kx:=rfl
def Q80 (N:Nat) (c:(List Int)×Int×Int) (most:Int):Option (Y0×Y3):=
  (Q74 N c [4,5,3,6,8,2,1,0]).bind fun r=>
  (Q98 N r.1 most).bind fun r1=>
  (Q78 N r.2 2).bind fun r2=>
  (Q74 N r2.2 [0,3,5,8,12,20]).bind fun r3=>
  (Q79 N r3.2 3).bind fun r4=>
  (Q79 N r4.2 2).bind fun r5=>
  Q80_L2 N N r1.1 r2.1 r3.1 r4.1 (iadd .i64 1 r5.1) 0 r5.2 ([],([],([],[]))) ([],([],([],[])))
def Q75_K1 (N:Nat) (kx4:Int→Int→Y3→Y0→(List Int)→Option Y14) (t2:Int) (left1:Int) (fromx:Int) (c3:(List Int)×Int×Int) (kx5:(List Int)×(List Int)×(List Int)×(List Int)) (out2:List Int):Option Y14:=
  (Q78 N c3 2).bind fun r3=>
  bif r3.1 then
    (Q79 N r3.2 left1).bind fun r4=>
    chk (inB fromx out2.length)<|
    chk (inB fromx out2.length)<|
    kx4 t2 (isub .i64 left1 (iadd .i64 1 r4.1)) r4.2 kx5 (List.set out2 fromx.toNat (iadd .i64 (gd out2 fromx.toNat 0) (iadd .i64 1 r4.1)))
  else
    chk (inB fromx out2.length)<|
    chk (inB fromx out2.length)<|
    kx4 t2 (isub .i64 left1 left1) r3.2 kx5 (List.set out2 fromx.toNat (iadd .i64 (gd out2 fromx.toNat 0) left1))
def Q75_K2 (N:Nat) (kx2:Int→Y3→Y0→(List Int)→Option Y14) (t3:Int) (c4:(List Int)×Int×Int) (kx6:(List Int)×(List Int)×(List Int)×(List Int)) (out3:List Int):Option Y14:=
  kx2 (iadd .i64 t3 1) c4 kx6 out3
def Q75_B1 (N:Nat) (kx2:Int→Y3→Y0→(List Int)→Option Y14) (kx4:Int→Int→Y3→Y0→(List Int)→Option Y14) (t1:Int) (left:Int) (c2:(List Int)×Int×Int) (kx3:(List Int)×(List Int)×(List Int)×(List Int)) (out1:List Int):Option Y14:=
  bif ilt 0 left then
    (Q78 N c2 2).bind fun r1=>
    bif r1.1 then
      (Q79 N r1.2 (iadd .i64 t1 1)).bind fun r2=>
      Q75_K1 N kx4 t1 left r2.1 r2.2 kx3 out1
    else
      Q75_K1 N kx4 t1 left t1 r1.2 kx3 out1
  else
    Q75_K2 N kx2 t1 c2 kx3 out1
def Q75_L1 (N fu_:Nat) (kx2:Int→Y3→Y0→(List Int)→Option Y14) (t1:Int) (left:Int) (c2:(List Int)×Int×Int) (kx3:(List Int)×(List Int)×(List Int)×(List Int)) (out1:List Int):Option Y14:=
  iterK fu_ (fun kx4 (v_:Y19×(Y3×Y0×(List Int)×Unit))=>Q75_B1 N kx2 (fun t1 left c2 kx3 out1=>kx4 ((t1,left,()),(c2,kx3,out1,()))) v_.1.1 v_.1.2.1 v_.2.1 v_.2.2.1 v_.2.2.2.1) ((t1,left,()),(c2,kx3,out1,()))
theorem Q75_L1_succ (N fu_:Nat) (kx2:Int→Y3→Y0→(List Int)→Option Y14) (t1:Int) (left:Int) (c2:(List Int)×Int×Int) (kx3:(List Int)×(List Int)×(List Int)×(List Int)) (out1:List Int):Q75_L1 N (fu_+1) kx2 t1 left c2 kx3 out1=Q75_B1 N kx2 (fun t1 left c2 kx3 out1=>Q75_L1 N fu_ kx2 t1 left c2 kx3 out1) t1 left c2 kx3 out1:=rfl
def Q75_K3 (N:Nat) (c5:(List Int)×Int×Int) (out4:List Int):Option Y14:=
  (Q79 N c5 30).bind fun r5=>
  bif ieq r5.1 0 then
    (Q74 N r5.2 [0,1]).bind fun r6=>
    chk (fitB (out4.length+1) 8)<|
    some (out4++[r6.1],r6.2)
  else
    bif ieq r5.1 1 then
      bif ilt 0 (len out4) then
        (Q79 N r5.2 (len out4)).bind fun r7=>
        chk (inB r7.1 out4.length)<|
        (Q74 N r7.2 [1,(-1),4611686018427387904,(-9223372036854775808)]).bind fun r8=>
        chk (inB r7.1 out4.length)<|
        some (List.set out4 r7.1.toNat (iadd .i64 (gd out4 r7.1.toNat 0) r8.1),r8.2)
      else
        some (out4,r5.2)
    else
      some (out4,r5.2)
def Q75_B2 (N:Nat) (kx2:Int→Y3→Y0→(List Int)→Option Y14) (t:Int) (c1:(List Int)×Int×Int) (kx1:(List Int)×(List Int)×(List Int)×(List Int)) (out:List Int):Option Y14:=
  bif ilt t (len kx1.1) then
    chk (inB t kx1.1.length)<|
    Q75_L1 N N kx2 t (gd kx1.1 t.toNat 0) c1 kx1 out
  else
    Q75_K3 N c1 out
def Q75_L2 (N fu_:Nat) (t:Int) (c1:(List Int)×Int×Int) (kx1:(List Int)×(List Int)×(List Int)×(List Int)) (out:List Int):Option Y14:=
  iterK fu_ (fun kx2 (v_:Y5×(Y3×Y0×(List Int)×Unit))=>Q75_B2 N (fun t c1 kx1 out=>kx2 ((t,()),(c1,kx1,out,()))) v_.1.1 v_.2.1 v_.2.2.1 v_.2.2.2.1) ((t,()),(c1,kx1,out,()))
theorem Q75_L2_succ (N fu_:Nat) (t:Int) (c1:(List Int)×Int×Int) (kx1:(List Int)×(List Int)×(List Int)×(List Int)) (out:List Int):Q75_L2 N (fu_+1) t c1 kx1 out=Q75_B2 N (fun t c1 kx1 out=>Q75_L2 N fu_ t c1 kx1 out) t c1 kx1 out:=rfl
def Q75 (N:Nat) (c:(List Int)×Int×Int) (kx:(List Int)×(List Int)×(List Int)×(List Int)):Option Y14:=
  chk (mkB (len kx.1) 8)<|
  (Q107 N kx).bind fun r=>
  bif !r.1 then
    some (List.replicate (len kx.1).toNat 0,c)
  else
    Q75_L2 N N 0 c kx (List.replicate (len kx.1).toNat 0)
def Q95_K1 (N:Nat) (a1:Int×Int×Int×Int×Int):Option Y6:=
  (Q97 N a1.1 4 6).bind fun r=>
  bif r.1 then
    bif ieq a1.2.1 0 then
      bif ieq a1.2.2.1 0 then
        bif ieq a1.2.2.2.1 0 then
          some (ieq a1.2.2.2.2 0,())
        else
          some (false,())
      else
        some (false,())
    else
      some (false,())
  else
    some (false,())
def Q95 (N:Nat) (a:Int×Int×Int×Int×Int):Option Y6:=
  bif ieq a.1 1 then
    some (true,())
  else
    bif ieq a.1 2 then
      bif ieq a.2.2.2.1 0 then
        some (ieq a.2.2.2.2 0,())
      else
        some (false,())
    else
      bif ieq a.1 3 then
        bif ieq a.2.2.2.1 0 then
          some (ieq a.2.2.2.2 0,())
        else
          some (false,())
      else
        Q95_K1 N a
def Q88 (N:Nat) (l:Y0×(List Int)×Int) (t:Int):Option Y6:=
  (Q97 N t l.2.2 (isub .i64 (len l.2.1) 1)).bind fun r=>
  some (r.1,())
def Q93 (N:Nat) (l:Y0×(List Int)×Int) (a:Int×Int×Int×Int×Int):Option Y6:=
  bif ieq a.1 2 then
    (Q88 N l a.2.1).bind fun r=>
    some (r.1,())
  else
    bif ieq a.1 3 then
      (Q88 N l a.2.1).bind fun r1=>
      some (r1.1,())
    else
      bif ieq a.1 4 then
        (Q88 N l l.2.2).bind fun r2=>
        some (r2.1,())
      else
        some (true,())
def Q100 (N:Nat) (l:List Int):Option Y1:=
  chk (fitB (0+l.length) 8)<|
  some (l,())
def Q94 (N:Nat) (l:Y0×(List Int)×Int):Option (Y2×Unit):=
  (Q100 N l.1.1).bind fun r=>
  (Q100 N l.1.2.1).bind fun r1=>
  (Q100 N l.1.2.2.1).bind fun r2=>
  (Q100 N l.1.2.2.2).bind fun r3=>
  (Q100 N l.2.1).bind fun r4=>
  some (((r.1,(r1.1,(r2.1,r3.1))),(r4.1,l.2.2)),())
def Q91_K1 (N:Nat) (out1:List Int):Option Y1:=
  some (out1,())
def Q91_B1 (N:Nat) (kx:Int→Int→Y2→(List Int)→Option Y1) (stock:Int) (t:Int) (l1:Y0×(List Int)×Int) (out:List Int):Option Y1:=
  bif ilt t (len l1.2.1) then
    chk (inB t l1.1.1.length)<|
    (Q98 N stock (gd l1.1.1 t.toNat 0)).bind fun r1=>
    chk (inB t l1.1.1.length)<|
    chk (fitB (out.length+1) 8)<|
    kx (isub .i64 stock r1.1) (iadd .i64 t 1) l1 (out++[isub .i64 (gd l1.1.1 t.toNat 0) r1.1])
  else
    Q91_K1 N out
def Q91_L1 (N fu_:Nat) (stock:Int) (t:Int) (l1:Y0×(List Int)×Int) (out:List Int):Option Y1:=
  iterK fu_ (fun kx (v_:Y19×(Y2×(List Int)×Unit))=>Q91_B1 N (fun stock t l1 out=>kx ((stock,t,()),(l1,out,()))) v_.1.1 v_.1.2.1 v_.2.1 v_.2.2.1) ((stock,t,()),(l1,out,()))
theorem Q91_L1_run (N:Nat) (stock:Nat→Int) (t:Nat→Int) (l1:Nat→Y2) (out:Nat→(List Int)) (n_:Nat) {res_:Option Y1} (hstep_:∀j_,j_<n_→∀kx_,Q91_B1 N kx_ (stock j_) (t j_) (l1 j_) (out j_)=kx_ (stock (j_+1)) (t (j_+1)) (l1 (j_+1)) (out (j_+1))) (hend_:∀kx_,Q91_B1 N kx_ (stock n_) (t n_) (l1 n_) (out n_)=res_) (fu_:Nat) (hm_:n_<fu_):Q91_L1 N fu_ (stock 0) (t 0) (l1 0) (out 0)=res_:=by
  exact loop_run (L:=fun fu_ (x_:Int×Int×Y2×(List Int))=>Q91_L1 N fu_ x_.1 x_.2.1 x_.2.2.1 x_.2.2.2) (B:=fun kx_ x_=>Q91_B1 N (fun stock t l1 out=>kx_ (stock,t,l1,out)) x_.1 x_.2.1 x_.2.2.1 x_.2.2.2) (fun _ _=>rfl) (fun j_=>(stock j_,t j_,l1 j_,out j_)) n_ (fun j_ hi_ kx_=>hstep_ j_ hi_ _) (fun kx_=>hend_ _) fu_ hm_
def Q91 (N:Nat) (l:Y0×(List Int)×Int):Option Y1:=
  (Q96 N l l.2.2).bind fun r=>
  Q91_L1 N N r.1 l.2.2 l []
def Q87 (N:Nat) (l:Y0×(List Int)×Int):Option (Y0×Unit):=
  (Q91 N l).bind fun r=>
  chk (cutB l.2.2 (len l.1.2.1) l.1.2.1.length)<|
  (Q100 N (cut l.1.2.1 l.2.2 (len l.1.2.1))).bind fun r1=>
  chk (cutB l.2.2 (len l.1.2.2.1) l.1.2.2.1.length)<|
  (Q100 N (cut l.1.2.2.1 l.2.2 (len l.1.2.2.1))).bind fun r2=>
  chk (cutB l.2.2 (len l.1.2.2.2) l.1.2.2.2.length)<|
  (Q100 N (cut l.1.2.2.2 l.2.2 (len l.1.2.2.2))).bind fun r3=>
  some ((r.1,(r1.1,(r2.1,r3.1))),())
def Q111_K1 (N:Nat) (sum1:Int):Option Y5:=
  some (sum1,())
def Q111_B1 (N:Nat) (kx:(List Int)→Int→Int→Option Y5) (list1:List Int) (sum:Int) (i:Int):Option Y5:=
  bif ilt i (len list1) then
    chk (inB i list1.length)<|
    kx list1 (iadd .i64 sum (gd list1 i.toNat 0)) (iadd .i64 i 1)
  else
    Q111_K1 N sum
def Q111_L1 (N fu_:Nat) (list1:List Int) (sum:Int) (i:Int):Option Y5:=
  iterK fu_ (fun kx (v_:Y22×(Unit))=>Q111_B1 N (fun list1 sum i=>kx ((list1,sum,i,()),())) v_.1.1 v_.1.2.1 v_.1.2.2.1) ((list1,sum,i,()),())
theorem Q111_L1_run (N:Nat) (list1:Nat→(List Int)) (sum:Nat→Int) (i:Nat→Int) (n_:Nat) {res_:Option Y5} (hstep_:∀j_,j_<n_→∀kx_,Q111_B1 N kx_ (list1 j_) (sum j_) (i j_)=kx_ (list1 (j_+1)) (sum (j_+1)) (i (j_+1))) (hend_:∀kx_,Q111_B1 N kx_ (list1 n_) (sum n_) (i n_)=res_) (fu_:Nat) (hm_:n_<fu_):Q111_L1 N fu_ (list1 0) (sum 0) (i 0)=res_:=by
  exact loop_run (L:=fun fu_ (x_:(List Int)×Int×Int)=>Q111_L1 N fu_ x_.1 x_.2.1 x_.2.2) (B:=fun kx_ x_=>Q111_B1 N (fun list1 sum i=>kx_ (list1,sum,i)) x_.1 x_.2.1 x_.2.2) (fun _ _=>rfl) (fun j_=>(list1 j_,sum j_,i j_)) n_ (fun j_ hi_ kx_=>hstep_ j_ hi_ _) (fun kx_=>hend_ _) fu_ hm_
def Q111 (N:Nat) (list:List Int):Option Y5:=
  Q111_L1 N N list 0 0
def Q106_K1 (N:Nat) (kx:(List Int)→Int→Y0→(List Int)→Option Y1) (periods2:List Int) (i1:Int) (to:Int) (c2:(List Int)×(List Int)×(List Int)×(List Int)) (out1:List Int):Option Y1:=
  chk (inB i1 periods2.length)<|
  chk (inB i1 periods2.length)<|
  chk (cutB (gd periods2 i1.toNat 0) to c2.1.length)<|
  (Q111 N (cut c2.1 (gd periods2 i1.toNat 0) to)).bind fun r=>
  chk (inB (gd periods2 i1.toNat 0) out1.length)<|
  kx periods2 (iadd .i64 i1 1) c2 (List.set out1 (gd periods2 i1.toNat 0).toNat r.1)
def Q106_K2 (N:Nat) (out2:List Int):Option Y1:=
  some (out2,())
def Q106_B1 (N:Nat) (kx:(List Int)→Int→Y0→(List Int)→Option Y1) (periods1:List Int) (i:Int) (c1:(List Int)×(List Int)×(List Int)×(List Int)) (out:List Int):Option Y1:=
  bif ilt i (len periods1) then
    bif ilt (iadd .i64 i 1) (len periods1) then
      chk (inB (iadd .i64 i 1) periods1.length)<|
      Q106_K1 N kx periods1 i (gd periods1 (iadd .i64 i 1).toNat 0) c1 out
    else
      Q106_K1 N kx periods1 i (len c1.1) c1 out
  else
    Q106_K2 N out
def Q106_L1 (N fu_:Nat) (periods1:List Int) (i:Int) (c1:(List Int)×(List Int)×(List Int)×(List Int)) (out:List Int):Option Y1:=
  iterK fu_ (fun kx (v_:((List Int)×Int×Unit)×Y13)=>Q106_B1 N (fun periods1 i c1 out=>kx ((periods1,i,()),(c1,out,()))) v_.1.1 v_.1.2.1 v_.2.1 v_.2.2.1) ((periods1,i,()),(c1,out,()))
theorem Q106_L1_run (N:Nat) (periods1:Nat→(List Int)) (i:Nat→Int) (c1:Nat→Y0) (out:Nat→(List Int)) (n_:Nat) {res_:Option Y1} (hstep_:∀j_,j_<n_→∀kx_,Q106_B1 N kx_ (periods1 j_) (i j_) (c1 j_) (out j_)=kx_ (periods1 (j_+1)) (i (j_+1)) (c1 (j_+1)) (out (j_+1))) (hend_:∀kx_,Q106_B1 N kx_ (periods1 n_) (i n_) (c1 n_) (out n_)=res_) (fu_:Nat) (hm_:n_<fu_):Q106_L1 N fu_ (periods1 0) (i 0) (c1 0) (out 0)=res_:=by
  exact loop_run (L:=fun fu_ (x_:(List Int)×Int×Y0×(List Int))=>Q106_L1 N fu_ x_.1 x_.2.1 x_.2.2.1 x_.2.2.2) (B:=fun kx_ x_=>Q106_B1 N (fun periods1 i c1 out=>kx_ (periods1,i,c1,out)) x_.1 x_.2.1 x_.2.2.1 x_.2.2.2) (fun _ _=>rfl) (fun j_=>(periods1 j_,i j_,c1 j_,out j_)) n_ (fun j_ hi_ kx_=>hstep_ j_ hi_ _) (fun kx_=>hend_ _) fu_ hm_
def Q106 (N:Nat) (c:(List Int)×(List Int)×(List Int)×(List Int)) (periods:List Int):Option Y1:=
  chk (mkB (len c.1) 8)<|
  Q106_L1 N N periods 0 c (List.replicate (len c.1).toNat 0)
def Q103_K1 (N:Nat) (out1:List Int):Option Y1:=
  some (out1,())
def Q103_B1 (N:Nat) (kx:Int→Int→Int→(List Int)→Option Y1) (n1:Int) (code1:Int) (x:Int) (out:List Int):Option Y1:=
  bif ilt x n1 then
    chk (ile 0 x)<|
    bif ieq (iand .i64 (ishr .i64 code1 x) 1) 1 then
      chk (fitB (out.length+1) 8)<|
      kx n1 code1 (iadd .i64 x 1) (out++[x])
    else
      kx n1 code1 (iadd .i64 x 1) out
  else
    Q103_K1 N out
def Q103_L1 (N fu_:Nat) (n1:Int) (code1:Int) (x:Int) (out:List Int):Option Y1:=
  iterK fu_ (fun kx (v_:Y17×Y1)=>Q103_B1 N (fun n1 code1 x out=>kx ((n1,code1,x,()),(out,()))) v_.1.1 v_.1.2.1 v_.1.2.2.1 v_.2.1) ((n1,code1,x,()),(out,()))
theorem Q103_L1_run (N:Nat) (n1:Nat→Int) (code1:Nat→Int) (x:Nat→Int) (out:Nat→(List Int)) (n_:Nat) {res_:Option Y1} (hstep_:∀j_,j_<n_→∀kx_,Q103_B1 N kx_ (n1 j_) (code1 j_) (x j_) (out j_)=kx_ (n1 (j_+1)) (code1 (j_+1)) (x (j_+1)) (out (j_+1))) (hend_:∀kx_,Q103_B1 N kx_ (n1 n_) (code1 n_) (x n_) (out n_)=res_) (fu_:Nat) (hm_:n_<fu_):Q103_L1 N fu_ (n1 0) (code1 0) (x 0) (out 0)=res_:=by
  exact loop_run (L:=fun fu_ (x_:Int×Int×Int×(List Int))=>Q103_L1 N fu_ x_.1 x_.2.1 x_.2.2.1 x_.2.2.2) (B:=fun kx_ x_=>Q103_B1 N (fun n1 code1 x out=>kx_ (n1,code1,x,out)) x_.1 x_.2.1 x_.2.2.1 x_.2.2.2) (fun _ _=>rfl) (fun j_=>(n1 j_,code1 j_,x j_,out j_)) n_ (fun j_ hi_ kx_=>hstep_ j_ hi_ _) (fun kx_=>hend_ _) fu_ hm_
def Q103 (N:Nat) (n:Int) (code:Int):Option Y1:=
  Q103_L1 N N n code 0 []
def Q105_K1 (N:Nat):Option Y6:=
  some (true,())
def Q105_B1 (N:Nat) (kx:(List Int)→Int→Y0→Option Y6) (periods1:List Int) (t:Int) (c1:(List Int)×(List Int)×(List Int)×(List Int)):Option Y6:=
  bif ilt t (len c1.1) then
    bif ilt 0 (len periods1) then
      chk (inB 0 periods1.length)<|
      bif ile (gd periods1 0 0) t then
        some (true,())
      else
        chk (inB t c1.1.length)<|
        bif ilt 0 (gd c1.1 t.toNat 0) then
          some (false,())
        else
          kx periods1 (iadd .i64 t 1) c1
    else
      chk (inB t c1.1.length)<|
      bif ilt 0 (gd c1.1 t.toNat 0) then
        some (false,())
      else
        kx periods1 (iadd .i64 t 1) c1
  else
    Q105_K1 N
def Q105_L1 (N fu_:Nat) (periods1:List Int) (t:Int) (c1:(List Int)×(List Int)×(List Int)×(List Int)):Option Y6:=
  iterK fu_ (fun kx (v_:((List Int)×Int×Unit)×(Y0×Unit))=>Q105_B1 N (fun periods1 t c1=>kx ((periods1,t,()),(c1,()))) v_.1.1 v_.1.2.1 v_.2.1) ((periods1,t,()),(c1,()))
theorem Q105_L1_run (N:Nat) (periods1:Nat→(List Int)) (t:Nat→Int) (c1:Nat→Y0) (n_:Nat) {res_:Option Y6} (hstep_:∀j_,j_<n_→∀kx_,Q105_B1 N kx_ (periods1 j_) (t j_) (c1 j_)=kx_ (periods1 (j_+1)) (t (j_+1)) (c1 (j_+1))) (hend_:∀kx_,Q105_B1 N kx_ (periods1 n_) (t n_) (c1 n_)=res_) (fu_:Nat) (hm_:n_<fu_):Q105_L1 N fu_ (periods1 0) (t 0) (c1 0)=res_:=by
  exact loop_run (L:=fun fu_ (x_:(List Int)×Int×Y0)=>Q105_L1 N fu_ x_.1 x_.2.1 x_.2.2) (B:=fun kx_ x_=>Q105_B1 N (fun periods1 t c1=>kx_ (periods1,t,c1)) x_.1 x_.2.1 x_.2.2) (fun _ _=>rfl) (fun j_=>(periods1 j_,t j_,c1 j_)) n_ (fun j_ hi_ kx_=>hstep_ j_ hi_ _) (fun kx_=>hend_ _) fu_ hm_
def Q105 (N:Nat) (c:(List Int)×(List Int)×(List Int)×(List Int)) (periods:List Int):Option Y6:=
  Q105_L1 N N periods 0 c
def Q110_K1 (N:Nat) (out1:List Int):Option Y1:=
  some (out1,())
def Q110_B1 (N:Nat) (kx:(List Int)→Int→Int→Y0→(List Int)→Option Y1) (plan1:List Int) (now:Int) (t:Int) (c1:(List Int)×(List Int)×(List Int)×(List Int)) (out:List Int):Option Y1:=
  bif ilt t (len plan1) then
    chk (inB t plan1.length)<|
    chk (inB t c1.1.length)<|
    chk (fitB (out.length+1) 8)<|
    kx plan1 (isub .i64 (iadd .i64 now (gd plan1 t.toNat 0)) (gd c1.1 t.toNat 0)) (iadd .i64 t 1) c1 (out++[isub .i64 (iadd .i64 now (gd plan1 t.toNat 0)) (gd c1.1 t.toNat 0)])
  else
    Q110_K1 N out
def Q110_L1 (N fu_:Nat) (plan1:List Int) (now:Int) (t:Int) (c1:(List Int)×(List Int)×(List Int)×(List Int)) (out:List Int):Option Y1:=
  iterK fu_ (fun kx (v_:Y22×Y13)=>Q110_B1 N (fun plan1 now t c1 out=>kx ((plan1,now,t,()),(c1,out,()))) v_.1.1 v_.1.2.1 v_.1.2.2.1 v_.2.1 v_.2.2.1) ((plan1,now,t,()),(c1,out,()))
theorem Q110_L1_run (N:Nat) (plan1:Nat→(List Int)) (now:Nat→Int) (t:Nat→Int) (c1:Nat→Y0) (out:Nat→(List Int)) (n_:Nat) {res_:Option Y1} (hstep_:∀j_,j_<n_→∀kx_,Q110_B1 N kx_ (plan1 j_) (now j_) (t j_) (c1 j_) (out j_)=kx_ (plan1 (j_+1)) (now (j_+1)) (t (j_+1)) (c1 (j_+1)) (out (j_+1))) (hend_:∀kx_,Q110_B1 N kx_ (plan1 n_) (now n_) (t n_) (c1 n_) (out n_)=res_) (fu_:Nat) (hm_:n_<fu_):Q110_L1 N fu_ (plan1 0) (now 0) (t 0) (c1 0) (out 0)=res_:=by
  exact loop_run (L:=fun fu_ (x_:(List Int)×Int×Int×Y0×(List Int))=>Q110_L1 N fu_ x_.1 x_.2.1 x_.2.2.1 x_.2.2.2.1 x_.2.2.2.2) (B:=fun kx_ x_=>Q110_B1 N (fun plan1 now t c1 out=>kx_ (plan1,now,t,c1,out)) x_.1 x_.2.1 x_.2.2.1 x_.2.2.2.1 x_.2.2.2.2) (fun _ _=>rfl) (fun j_=>(plan1 j_,now j_,t j_,c1 j_,out j_)) n_ (fun j_ hi_ kx_=>hstep_ j_ hi_ _) (fun kx_=>hend_ _) fu_ hm_
def Q110 (N:Nat) (c:(List Int)×(List Int)×(List Int)×(List Int)) (plan:List Int):Option Y1:=
  Q110_L1 N N plan 0 0 c []
def Q108_K1 (N:Nat) (kx:(List Int)→Int→Y0→(List Int)→(List Int)→(List Int)→Option Y1) (plan2:List Int) (t1:Int) (c2:(List Int)×(List Int)×(List Int)×(List Int)) (v41:List Int) (out1:List Int) (stocks1:List Int):Option Y1:=
  chk (inB 1 3)<|
  chk (inB t1 c2.2.2.1.length)<|
  chk (inB t1 plan2.length)<|
  chk (inB 1 3)<|
  chk (inB 2 3)<|
  chk (inB t1 c2.2.2.2.length)<|
  chk (inB t1 stocks1.length)<|
  chk (inB 2 3)<|
  kx plan2 (iadd .i64 t1 1) c2 v41 (List.set (List.set out1 1 (iadd .i64 (gd out1 1 0) (imul .i64 (gd c2.2.2.1 t1.toNat 0) (gd plan2 t1.toNat 0)))) 2 (iadd .i64 (gd (List.set out1 1 (iadd .i64 (gd out1 1 0) (imul .i64 (gd c2.2.2.1 t1.toNat 0) (gd plan2 t1.toNat 0)))) 2 0) (imul .i64 (gd c2.2.2.2 t1.toNat 0) (gd stocks1 t1.toNat 0)))) stocks1
def Q108_K2 (N:Nat) (v42:List Int) (out2:List Int):Option Y1:=
  some (out2,())
def Q108_B1 (N:Nat) (kx:(List Int)→Int→Y0→(List Int)→(List Int)→(List Int)→Option Y1) (plan1:List Int) (t:Int) (c1:(List Int)×(List Int)×(List Int)×(List Int)) (v4:List Int) (out:List Int) (stocks:List Int):Option Y1:=
  bif ilt t (len plan1) then
    chk (inB t plan1.length)<|
    bif ilt 0 (gd plan1 t.toNat 0) then
      chk (inB 0 3)<|
      chk (inB t c1.2.1.length)<|
      chk (inB 0 3)<|
      Q108_K1 N kx plan1 t c1 v4 (List.set out 0 (iadd .i64 (gd out 0 0) (gd c1.2.1 t.toNat 0))) stocks
    else
      Q108_K1 N kx plan1 t c1 v4 out stocks
  else
    Q108_K2 N v4 out
def Q108_L1 (N fu_:Nat) (plan1:List Int) (t:Int) (c1:(List Int)×(List Int)×(List Int)×(List Int)) (v4:List Int) (out:List Int) (stocks:List Int):Option Y1:=
  iterK fu_ (fun kx (v_:((List Int)×Int×Unit)×(Y0×(List Int)×(List Int)×(List Int)×Unit))=>Q108_B1 N (fun plan1 t c1 v4 out stocks=>kx ((plan1,t,()),(c1,v4,out,stocks,()))) v_.1.1 v_.1.2.1 v_.2.1 v_.2.2.1 v_.2.2.2.1 v_.2.2.2.2.1) ((plan1,t,()),(c1,v4,out,stocks,()))
theorem Q108_L1_run (N:Nat) (plan1:Nat→(List Int)) (t:Nat→Int) (c1:Nat→Y0) (v4:Nat→(List Int)) (out:Nat→(List Int)) (stocks:Nat→(List Int)) (n_:Nat) {res_:Option Y1} (hstep_:∀j_,j_<n_→∀kx_,Q108_B1 N kx_ (plan1 j_) (t j_) (c1 j_) (v4 j_) (out j_) (stocks j_)=kx_ (plan1 (j_+1)) (t (j_+1)) (c1 (j_+1)) (v4 (j_+1)) (out (j_+1)) (stocks (j_+1))) (hend_:∀kx_,Q108_B1 N kx_ (plan1 n_) (t n_) (c1 n_) (v4 n_) (out n_) (stocks n_)=res_) (fu_:Nat) (hm_:n_<fu_):Q108_L1 N fu_ (plan1 0) (t 0) (c1 0) (v4 0) (out 0) (stocks 0)=res_:=by
  exact loop_run (L:=fun fu_ (x_:(List Int)×Int×Y0×(List Int)×(List Int)×(List Int))=>Q108_L1 N fu_ x_.1 x_.2.1 x_.2.2.1 x_.2.2.2.1 x_.2.2.2.2.1 x_.2.2.2.2.2) (B:=fun kx_ x_=>Q108_B1 N (fun plan1 t c1 v4 out stocks=>kx_ (plan1,t,c1,v4,out,stocks)) x_.1 x_.2.1 x_.2.2.1 x_.2.2.2.1 x_.2.2.2.2.1 x_.2.2.2.2.2) (fun _ _=>rfl) (fun j_=>(plan1 j_,t j_,c1 j_,v4 j_,out j_,stocks j_)) n_ (fun j_ hi_ kx_=>hstep_ j_ hi_ _) (fun kx_=>hend_ _) fu_ hm_
def Q108 (N:Nat) (c:(List Int)×(List Int)×(List Int)×(List Int)) (plan:List Int):Option Y1:=
  (Q110 N c plan).bind fun r=>
  Q108_L1 N N plan 0 c (List.replicate 3 0) (List.replicate 3 0) r.1
def Q104 (N:Nat) (c:(List Int)×(List Int)×(List Int)×(List Int)) (plan:List Int):Option Y5:=
  (Q108 N c plan).bind fun r=>
  chk (inB 0 3)<|
  chk (inB 1 3)<|
  chk (inB 2 3)<|
  some (iadd .i64 (iadd .i64 (gd r.1 0 0) (gd r.1 1 0)) (gd r.1 2 0),())
def Q101_K1 (N:Nat):Option Y6:=
  some (false,())
def Q101_B1 (N:Nat) (kx:(List Int)→(List Int)→Int→Option Y6) (a1:List Int) (b1:List Int) (i:Int):Option Y6:=
  bif ilt i (len a1) then
    chk (inB i a1.length)<|
    chk (inB i b1.length)<|
    bif ine (gd a1 i.toNat 0) (gd b1 i.toNat 0) then
      chk (inB i a1.length)<|
      chk (inB i b1.length)<|
      some (ilt (gd a1 i.toNat 0) (gd b1 i.toNat 0),())
    else
      kx a1 b1 (iadd .i64 i 1)
  else
    Q101_K1 N
def Q101_L1 (N fu_:Nat) (a1:List Int) (b1:List Int) (i:Int):Option Y6:=
  iterK fu_ (fun kx (v_:((List Int)×(List Int)×Int×Unit)×(Unit))=>Q101_B1 N (fun a1 b1 i=>kx ((a1,b1,i,()),())) v_.1.1 v_.1.2.1 v_.1.2.2.1) ((a1,b1,i,()),())
theorem Q101_L1_run (N:Nat) (a1:Nat→(List Int)) (b1:Nat→(List Int)) (i:Nat→Int) (n_:Nat) {res_:Option Y6} (hstep_:∀j_,j_<n_→∀kx_,Q101_B1 N kx_ (a1 j_) (b1 j_) (i j_)=kx_ (a1 (j_+1)) (b1 (j_+1)) (i (j_+1))) (hend_:∀kx_,Q101_B1 N kx_ (a1 n_) (b1 n_) (i n_)=res_) (fu_:Nat) (hm_:n_<fu_):Q101_L1 N fu_ (a1 0) (b1 0) (i 0)=res_:=by
  exact loop_run (L:=fun fu_ (x_:(List Int)×(List Int)×Int)=>Q101_L1 N fu_ x_.1 x_.2.1 x_.2.2) (B:=fun kx_ x_=>Q101_B1 N (fun a1 b1 i=>kx_ (a1,b1,i)) x_.1 x_.2.1 x_.2.2) (fun _ _=>rfl) (fun j_=>(a1 j_,b1 j_,i j_)) n_ (fun j_ hi_ kx_=>hstep_ j_ hi_ _) (fun kx_=>hend_ _) fu_ hm_
def Q101 (N:Nat) (a:List Int) (b:List Int):Option Y6:=
  bif ine (len a) (len b) then
    some (ilt (len a) (len b),())
  else
    Q101_L1 N N a b 0
def Q102_K1 (N:Nat) (best1:List Int):Option Y1:=
  some (best1,())
def Q102_B1 (N:Nat) (kx:Int→Int→Y0→(List Int)→Option Y1) (least:Int) (code:Int) (c1:(List Int)×(List Int)×(List Int)×(List Int)) (best:List Int):Option Y1:=
  chk (ile 0 (len c1.1))<|
  bif ilt code (ishl .i64 1 (len c1.1)) then
    (Q103 N (len c1.1) code).bind fun r=>
    (Q105 N c1 r.1).bind fun r1=>
    bif !r1.1 then
      kx least (iadd .i64 code 1) c1 best
    else
      (Q106 N c1 r.1).bind fun r2=>
      (Q104 N c1 r2.1).bind fun r3=>
      bif ilt least 0 then
        kx r3.1 (iadd .i64 code 1) c1 r.1
      else
        bif ilt r3.1 least then
          kx r3.1 (iadd .i64 code 1) c1 r.1
        else
          bif ieq r3.1 least then
            (Q101 N r.1 best).bind fun r4=>
            bif r4.1 then
              kx r3.1 (iadd .i64 code 1) c1 r.1
            else
              kx least (iadd .i64 code 1) c1 best
          else
            kx least (iadd .i64 code 1) c1 best
  else
    Q102_K1 N best
def Q102_L1 (N fu_:Nat) (least:Int) (code:Int) (c1:(List Int)×(List Int)×(List Int)×(List Int)) (best:List Int):Option Y1:=
  iterK fu_ (fun kx (v_:Y19×Y13)=>Q102_B1 N (fun least code c1 best=>kx ((least,code,()),(c1,best,()))) v_.1.1 v_.1.2.1 v_.2.1 v_.2.2.1) ((least,code,()),(c1,best,()))
theorem Q102_L1_run (N:Nat) (least:Nat→Int) (code:Nat→Int) (c1:Nat→Y0) (best:Nat→(List Int)) (n_:Nat) {res_:Option Y1} (hstep_:∀j_,j_<n_→∀kx_,Q102_B1 N kx_ (least j_) (code j_) (c1 j_) (best j_)=kx_ (least (j_+1)) (code (j_+1)) (c1 (j_+1)) (best (j_+1))) (hend_:∀kx_,Q102_B1 N kx_ (least n_) (code n_) (c1 n_) (best n_)=res_) (fu_:Nat) (hm_:n_<fu_):Q102_L1 N fu_ (least 0) (code 0) (c1 0) (best 0)=res_:=by
  exact loop_run (L:=fun fu_ (x_:Int×Int×Y0×(List Int))=>Q102_L1 N fu_ x_.1 x_.2.1 x_.2.2.1 x_.2.2.2) (B:=fun kx_ x_=>Q102_B1 N (fun least code c1 best=>kx_ (least,code,c1,best)) x_.1 x_.2.1 x_.2.2.1 x_.2.2.2) (fun _ _=>rfl) (fun j_=>(least j_,code j_,c1 j_,best j_)) n_ (fun j_ hi_ kx_=>hstep_ j_ hi_ _) (fun kx_=>hend_ _) fu_ hm_
def Q102 (N:Nat) (c:(List Int)×(List Int)×(List Int)×(List Int)):Option Y1:=
  Q102_L1 N N (-1) 0 c []
def Q92 (N:Nat) (l:Y0×(List Int)×Int) (a:Int×Int×Int×Int×Int):Option (Y2×Unit):=
  (Q94 N l).bind fun r=>
  bif ieq a.1 1 then
    chk (fitB (r.1.1.1.length+1) 8)<|
    chk (fitB (r.1.1.2.1.length+1) 8)<|
    chk (fitB (r.1.1.2.2.1.length+1) 8)<|
    chk (fitB (r.1.1.2.2.2.length+1) 8)<|
    chk (fitB (r.1.2.1.length+1) 8)<|
    some (((r.1.1.1++[a.2.1],(r.1.1.2.1++[a.2.2.1],(r.1.1.2.2.1++[a.2.2.2.1],r.1.1.2.2.2++[a.2.2.2.2]))),(r.1.2.1++[0],r.1.2.2)),())
  else
    bif ieq a.1 2 then
      chk (inB a.2.1 r.1.1.1.length)<|
      some (((List.set r.1.1.1 a.2.1.toNat a.2.2.1,r.1.1.2),r.1.2),())
    else
      bif ieq a.1 3 then
        chk (inB a.2.1 r.1.2.1.length)<|
        some ((r.1.1,(List.set r.1.2.1 a.2.1.toNat a.2.2.1,r.1.2.2)),())
      else
        bif ieq a.1 4 then
          some ((r.1.1,(r.1.2.1,iadd .i64 l.2.2 1)),())
        else
          bif ieq a.1 5 then
            (Q87 N l).bind fun r1=>
            chk (cutB 0 l.2.2 l.2.1.length)<|
            (Q100 N (cut l.2.1 0 l.2.2)).bind fun r2=>
            (Q102 N r1.1).bind fun r3=>
            (Q106 N r1.1 r3.1).bind fun r4=>
            chk (fitB (r2.1.length+r4.1.length) 8)<|
            some ((r.1.1,(r2.1++r4.1,r.1.2.2)),())
          else
            bif ieq a.1 6 then
              chk (cutB 0 l.2.2 l.2.1.length)<|
              (Q100 N (cut l.2.1 0 l.2.2)).bind fun r5=>
              chk (mkZ (isub .i64 (len l.2.1) l.2.2) r5.1.length 8)<|
              some ((r.1.1,(r5.1++(List.replicate (isub .i64 (len l.2.1) l.2.2).toNat 0),r.1.2.2)),())
            else
              some (r.1,())
def Q89 (N:Nat) (l:Y0×(List Int)×Int) (a:Int×Int×Int×Int×Int):Option ((Y2×Bool)×Unit):=
  (Q95 N a).bind fun r=>
  bif !r.1 then
    some (((([],([],([],[]))),([],0)),false),())
  else
    (Q93 N l a).bind fun r1=>
    bif !r1.1 then
      some (((([],([],([],[]))),([],0)),false),())
    else
      (Q92 N l a).bind fun r2=>
      (Q90 N r2.1).bind fun r3=>
      bif !r3.1 then
        some (((([],([],([],[]))),([],0)),false),())
      else
        some ((r2.1,true),())
def Q99 (N:Nat) (a:Int) (b:Int):Option Y5:=
  bif ilt b a then
    some (a,())
  else
    some (b,())
def Q73_K1 (N:Nat) (c1:(List Int)×Int×Int) (v4:Int×Int×Int×Int×Int) (a:Int×Int×Int×Int×Int):Option ((Int×Int×Int×Int×Int)×Y3):=
  (Q79 N c1 32).bind fun r17=>
  bif ieq r17.1 0 then
    (Q74 N r17.2 [(-1),8,4611686018427387904]).bind fun r18=>
    some ((a.1,(r18.1,a.2.2)),r18.2)
  else
    bif ieq r17.1 1 then
      (Q74 N r17.2 [1,(-1),10]).bind fun r19=>
      some ((a.1,(a.2.1,(a.2.2.1,(a.2.2.2.1,r19.1)))),r19.2)
    else
      bif ieq r17.1 2 then
        (Q74 N r17.2 [0,7,(-1)]).bind fun r20=>
        some ((r20.1,a.2),r20.2)
      else
        some (a,r17.2)
def Q73 (N:Nat) (c:(List Int)×Int×Int) (l:Y0×(List Int)×Int):Option ((Int×Int×Int×Int×Int)×Y3):=
  (Q74 N c [1,2,3,3,3,4,4,4,5,5,6]).bind fun r=>
  (Q98 N (len l.2.1) 8).bind fun r1=>
  (Q99 N 1 r1.1).bind fun r2=>
  bif ieq r.1 1 then
    (Q79 N r.2 9).bind fun r3=>
    (Q79 N r3.2 12).bind fun r4=>
    (Q79 N r4.2 4).bind fun r5=>
    (Q79 N r5.2 3).bind fun r6=>
    Q73_K1 N r6.2 (0,(0,(0,(0,0)))) (1,(r3.1,(r4.1,(r5.1,r6.1))))
  else
    bif ieq r.1 2 then
      (Q98 N l.2.2 8).bind fun r7=>
      (Q99 N 0 r7.1).bind fun r8=>
      (Q79 N r.2 3).bind fun r9=>
      (Q98 N (isub .i64 r2.1 1) (iadd .i64 r8.1 r9.1)).bind fun r10=>
      (Q74 N r9.2 [0,1,3,8,20,21]).bind fun r11=>
      Q73_K1 N r11.2 (0,(0,(0,(0,0)))) (r.1,(r10.1,(r11.1,(0,0))))
    else
      bif ieq r.1 3 then
        (Q98 N l.2.2 8).bind fun r12=>
        (Q99 N 0 r12.1).bind fun r13=>
        (Q79 N r.2 3).bind fun r14=>
        (Q98 N (isub .i64 r2.1 1) (iadd .i64 r13.1 r14.1)).bind fun r15=>
        (Q74 N r14.2 [5,8,3,0,20,200,201]).bind fun r16=>
        Q73_K1 N r16.2 (0,(0,(0,(0,0)))) (r.1,(r15.1,(r16.1,(0,0))))
      else
        Q73_K1 N r.2 (0,(0,(0,(0,0)))) (r.1,(0,(0,(0,0))))
def Q76_K1 (N:Nat) (c2:(List Int)×Int×Int) (v21:Y0×(List Int)×Int) (l1:Y0×(List Int)×Int):Option (Y2×Y3):=
  (Q79 N c2 48).bind fun r6=>
  bif ieq r6.1 0 then
    (Q74 N r6.2 [(-1),8,9]).bind fun r7=>
    some ((l1.1,(l1.2.1,r7.1)),r7.2)
  else
    bif ieq r6.1 1 then
      (Q74 N r6.2 [0,(-1),201]).bind fun r8=>
      chk (fitB (l1.2.1.length+1) 8)<|
      some ((l1.1,(l1.2.1++[r8.1],l1.2.2)),r8.2)
    else
      bif ieq r6.1 2 then
        bif ilt 0 (len l1.2.1) then
          (Q74 N r6.2 [0,200,201,(-1)]).bind fun r9=>
          chk (inB 0 l1.2.1.length)<|
          some ((l1.1,(List.set l1.2.1 0 r9.1,l1.2.2)),r9.2)
        else
          some (l1,r6.2)
      else
        some (l1,r6.2)
def Q76_B1 (N:Nat) (kx:Int→Y3→Y2→Y2→Option (Y2×Y3)) (n:Int) (c1:(List Int)×Int×Int) (v2:Y0×(List Int)×Int) (l:Y0×(List Int)×Int):Option (Y2×Y3):=
  bif ilt 0 n then
    (Q90 N l).bind fun r3=>
    bif r3.1 then
      (Q73 N c1 l).bind fun r4=>
      (Q89 N l r4.1).bind fun r5=>
      bif r5.1.2 then
        kx (isub .i64 n 1) r4.2 v2 r5.1.1
      else
        kx (isub .i64 n 1) r4.2 v2 l
    else
      Q76_K1 N c1 v2 l
  else
    Q76_K1 N c1 v2 l
def Q76_L1 (N fu_:Nat) (n:Int) (c1:(List Int)×Int×Int) (v2:Y0×(List Int)×Int) (l:Y0×(List Int)×Int):Option (Y2×Y3):=
  iterK fu_ (fun kx (v_:Y5×(Y3×Y2×Y2×Unit))=>Q76_B1 N (fun n c1 v2 l=>kx ((n,()),(c1,v2,l,()))) v_.1.1 v_.2.1 v_.2.2.1 v_.2.2.2.1) ((n,()),(c1,v2,l,()))
theorem Q76_L1_succ (N fu_:Nat) (n:Int) (c1:(List Int)×Int×Int) (v2:Y0×(List Int)×Int) (l:Y0×(List Int)×Int):Q76_L1 N (fu_+1) n c1 v2 l=Q76_B1 N (fun n c1 v2 l=>Q76_L1 N fu_ n c1 v2 l) n c1 v2 l:=rfl
def Q76 (N:Nat) (c:(List Int)×Int×Int):Option (Y2×Y3):=
  (Q80 N c 6).bind fun r=>
  (Q75 N r.2 r.1).bind fun r1=>
  (Q79 N r1.2 6).bind fun r2=>
  Q76_L1 N N r2.1 r2.2 (([],([],([],[]))),([],0)) (r.1,(r1.1,0))
def Q84 (N:Nat) (code:List Int):Option (Y2×Unit):=
  (Q76 N (code,(0,0))).bind fun r=>
  some (r.1,())
def Q85 (N:Nat) (code:List Int):Option (Y2×Unit):=
  (Q84 N code).bind fun r=>
  some (r.1,())
def Q68 (N:Nat) (n:Int) (low:Int) (high:Int):Option Y6:=
  bif ile low n then
    some (ile n high,())
  else
    some (false,())
def Q52_K1 (N:Nat):Option Y6:=
  some (true,())
def Q52_B1 (N:Nat) (kx:Int→Int→(List Int)→Int→Int→Option Y6) (low1:Int) (high1:Int) (v9:List Int) (v10:Int) (v11:Int):Option Y6:=
  bif ilt v11 v10 then
    chk (inB v11 v9.length)<|
    (Q68 N (gd v9 v11.toNat 0) low1 high1).bind fun r=>
    bif !r.1 then
      some (false,())
    else
      kx low1 high1 v9 v10 (iadd .i64 v11 1)
  else
    Q52_K1 N
def Q52_L1 (N fu_:Nat) (low1:Int) (high1:Int) (v9:List Int) (v10:Int) (v11:Int):Option Y6:=
  iterK fu_ (fun kx (v_:(Int×Int×(List Int)×Int×Int×Unit)×(Unit))=>Q52_B1 N (fun low1 high1 v9 v10 v11=>kx ((low1,high1,v9,v10,v11,()),())) v_.1.1 v_.1.2.1 v_.1.2.2.1 v_.1.2.2.2.1 v_.1.2.2.2.2.1) ((low1,high1,v9,v10,v11,()),())
theorem Q52_L1_run (N:Nat) (low1:Nat→Int) (high1:Nat→Int) (v9:Nat→(List Int)) (v10:Nat→Int) (v11:Nat→Int) (n_:Nat) {res_:Option Y6} (hstep_:∀j_,j_<n_→∀kx_,Q52_B1 N kx_ (low1 j_) (high1 j_) (v9 j_) (v10 j_) (v11 j_)=kx_ (low1 (j_+1)) (high1 (j_+1)) (v9 (j_+1)) (v10 (j_+1)) (v11 (j_+1))) (hend_:∀kx_,Q52_B1 N kx_ (low1 n_) (high1 n_) (v9 n_) (v10 n_) (v11 n_)=res_) (fu_:Nat) (hm_:n_<fu_):Q52_L1 N fu_ (low1 0) (high1 0) (v9 0) (v10 0) (v11 0)=res_:=by
  exact loop_run (L:=fun fu_ (x_:Int×Int×(List Int)×Int×Int)=>Q52_L1 N fu_ x_.1 x_.2.1 x_.2.2.1 x_.2.2.2.1 x_.2.2.2.2) (B:=fun kx_ x_=>Q52_B1 N (fun low1 high1 v9 v10 v11=>kx_ (low1,high1,v9,v10,v11)) x_.1 x_.2.1 x_.2.2.1 x_.2.2.2.1 x_.2.2.2.2) (fun _ _=>rfl) (fun j_=>(low1 j_,high1 j_,v9 j_,v10 j_,v11 j_)) n_ (fun j_ hi_ kx_=>hstep_ j_ hi_ _) (fun kx_=>hend_ _) fu_ hm_
def Q52 (N:Nat) (list:List Int) (low:Int) (high:Int):Option Y6:=
  Q52_L1 N N low high list (len list) 0
def Q31 (N:Nat) (c:(List Int)×(List Int)×(List Int)×(List Int)):Option Y6:=
  bif ile (len c.1) 8 then
    bif ieq (len c.2.1) (len c.1) then
      bif ieq (len c.2.2.1) (len c.1) then
        bif ieq (len c.2.2.2) (len c.1) then
          (Q52 N c.1 0 20).bind fun r=>
          bif r.1 then
            (Q52 N c.2.1 0 99).bind fun r1=>
            bif r1.1 then
              (Q52 N c.2.2.1 0 9).bind fun r2=>
              bif r2.1 then
                (Q52 N c.2.2.2 0 9).bind fun r3=>
                some (r3.1,())
              else
                some (false,())
            else
              some (false,())
          else
            some (false,())
        else
          some (false,())
      else
        some (false,())
    else
      some (false,())
  else
    some (false,())
def Q67_K1 (N:Nat) (sum1:Int):Option Y5:=
  some (sum1,())
def Q67_B1 (N:Nat) (kx:Int→(List Int)→Int→Int→Option Y5) (sum:Int) (v6:List Int) (v7:Int) (v8:Int):Option Y5:=
  bif ilt v8 v7 then
    chk (inB v8 v6.length)<|
    kx (iadd .i64 sum (gd v6 v8.toNat 0)) v6 v7 (iadd .i64 v8 1)
  else
    Q67_K1 N sum
def Q67_L1 (N fu_:Nat) (sum:Int) (v6:List Int) (v7:Int) (v8:Int):Option Y5:=
  iterK fu_ (fun kx (v_:(Int×(List Int)×Int×Int×Unit)×(Unit))=>Q67_B1 N (fun sum v6 v7 v8=>kx ((sum,v6,v7,v8,()),())) v_.1.1 v_.1.2.1 v_.1.2.2.1 v_.1.2.2.2.1) ((sum,v6,v7,v8,()),())
theorem Q67_L1_run (N:Nat) (sum:Nat→Int) (v6:Nat→(List Int)) (v7:Nat→Int) (v8:Nat→Int) (n_:Nat) {res_:Option Y5} (hstep_:∀j_,j_<n_→∀kx_,Q67_B1 N kx_ (sum j_) (v6 j_) (v7 j_) (v8 j_)=kx_ (sum (j_+1)) (v6 (j_+1)) (v7 (j_+1)) (v8 (j_+1))) (hend_:∀kx_,Q67_B1 N kx_ (sum n_) (v6 n_) (v7 n_) (v8 n_)=res_) (fu_:Nat) (hm_:n_<fu_):Q67_L1 N fu_ (sum 0) (v6 0) (v7 0) (v8 0)=res_:=by
  exact loop_run (L:=fun fu_ (x_:Int×(List Int)×Int×Int)=>Q67_L1 N fu_ x_.1 x_.2.1 x_.2.2.1 x_.2.2.2) (B:=fun kx_ x_=>Q67_B1 N (fun sum v6 v7 v8=>kx_ (sum,v6,v7,v8)) x_.1 x_.2.1 x_.2.2.1 x_.2.2.2) (fun _ _=>rfl) (fun j_=>(sum j_,v6 j_,v7 j_,v8 j_)) n_ (fun j_ hi_ kx_=>hstep_ j_ hi_ _) (fun kx_=>hend_ _) fu_ hm_
def Q67 (N:Nat) (list:List Int):Option Y5:=
  Q67_L1 N N 0 list (len list) 0
def Q41 (N:Nat) (l:Y0×(List Int)×Int) (n:Int):Option Y5:=
  chk (cutB 0 n l.2.1.length)<|
  (Q67 N (cut l.2.1 0 n)).bind fun r=>
  chk (cutB 0 n l.1.1.length)<|
  (Q67 N (cut l.1.1 0 n)).bind fun r1=>
  some (isub .i64 r.1 r1.1,())
def Q32_K1 (N:Nat):Option Y6:=
  some (true,())
def Q32_B1 (N:Nat) (kx:Int→Int→Y2→Option Y6) (v34:Int) (v35:Int) (l1:Y0×(List Int)×Int):Option Y6:=
  bif ilt v35 v34 then
    (Q41 N l1 (iadd .i64 v35 1)).bind fun r3=>
    bif ilt r3.1 0 then
      some (false,())
    else
      kx v34 (iadd .i64 v35 1) l1
  else
    Q32_K1 N
def Q32_L1 (N fu_:Nat) (v34:Int) (v35:Int) (l1:Y0×(List Int)×Int):Option Y6:=
  iterK fu_ (fun kx (v_:Y19×(Y2×Unit))=>Q32_B1 N (fun v34 v35 l1=>kx ((v34,v35,()),(l1,()))) v_.1.1 v_.1.2.1 v_.2.1) ((v34,v35,()),(l1,()))
theorem Q32_L1_run (N:Nat) (v34:Nat→Int) (v35:Nat→Int) (l1:Nat→Y2) (n_:Nat) {res_:Option Y6} (hstep_:∀j_,j_<n_→∀kx_,Q32_B1 N kx_ (v34 j_) (v35 j_) (l1 j_)=kx_ (v34 (j_+1)) (v35 (j_+1)) (l1 (j_+1))) (hend_:∀kx_,Q32_B1 N kx_ (v34 n_) (v35 n_) (l1 n_)=res_) (fu_:Nat) (hm_:n_<fu_):Q32_L1 N fu_ (v34 0) (v35 0) (l1 0)=res_:=by
  exact loop_run (L:=fun fu_ (x_:Int×Int×Y2)=>Q32_L1 N fu_ x_.1 x_.2.1 x_.2.2) (B:=fun kx_ x_=>Q32_B1 N (fun v34 v35 l1=>kx_ (v34,v35,l1)) x_.1 x_.2.1 x_.2.2) (fun _ _=>rfl) (fun j_=>(v34 j_,v35 j_,l1 j_)) n_ (fun j_ hi_ kx_=>hstep_ j_ hi_ _) (fun kx_=>hend_ _) fu_ hm_
def Q32 (N:Nat) (l:Y0×(List Int)×Int):Option Y6:=
  (Q31 N l.1).bind fun r=>
  bif !r.1 then
    some (false,())
  else
    bif ine (len l.2.1) (len l.1.1) then
      some (false,())
    else
      (Q52 N l.2.1 0 200).bind fun r1=>
      bif !r1.1 then
        some (false,())
      else
        (Q68 N l.2.2 0 (len l.2.1)).bind fun r2=>
        bif !r2.1 then
          some (false,())
        else
          Q32_L1 N N l.2.2 0 l
def Q56 (N:Nat) (list:List Int):Option Y1:=
  chk (fitB (0+list.length) 8)<|
  some (list,())
def Q39 (N:Nat) (l:Y0×(List Int)×Int):Option (Y2×Unit):=
  (Q56 N l.1.1).bind fun r=>
  (Q56 N l.1.2.1).bind fun r1=>
  (Q56 N l.1.2.2.1).bind fun r2=>
  (Q56 N l.1.2.2.2).bind fun r3=>
  (Q56 N l.2.1).bind fun r4=>
  some (((r.1,(r1.1,(r2.1,r3.1))),(r4.1,l.2.2)),())
def Q43 (N:Nat) (l:Y0×(List Int)×Int):Option (((Y2×ByteArray×ByteArray×Int)×Bool)×Unit):=
  (Q32 N l).bind fun r=>
  bif !r.1 then
    some ((((([],([],([],[]))),([],0)),((⟨#[]⟩:ByteArray),((⟨#[]⟩:ByteArray),0))),false),())
  else
    (Q39 N l).bind fun r1=>
    some (((r1.1,((⟨#[]⟩:ByteArray),((⟨#[]⟩:ByteArray),0))),true),())
def Q86 (N:Nat) (l:Y0×(List Int)×Int):Option Y6:=
  (Q90 N l).bind fun r=>
  some (r.1,())

def Q61_K1 (N:Nat) (s2:ByteArray) (most2:Int) (others2:ByteArray):Option Y6:=
  bif ile (slen s2) most2 then
    (strings_ContainsAny N s2 others2).bind fun r=>
    some (!r.1,())
  else
    some (false,())
def Q61_B1 (N:Nat) (kx:ByteArray→Int→ByteArray→Int→Int→Option Y6) (s1:ByteArray) (most1:Int) (others1:ByteArray) (v9:Int) (v10:Int):Option Y6:=
  bif ilt v10 v9 then
    chk (inB v10 s1.size)<|
    bif ilt (sbyte s1 v10) 32 then
      some (false,())
    else
      chk (inB v10 s1.size)<|
      bif ilt 126 (sbyte s1 v10) then
        some (false,())
      else
        kx s1 most1 others1 v9 (iadd .i64 v10 1)
  else
    Q61_K1 N s1 most1 others1
def Q61_L1 (N fu_:Nat) (s1:ByteArray) (most1:Int) (others1:ByteArray) (v9:Int) (v10:Int):Option Y6:=
  iterK fu_ (fun kx (v_:(ByteArray×Int×ByteArray×Int×Int×Unit)×(Unit))=>Q61_B1 N (fun s1 most1 others1 v9 v10=>kx ((s1,most1,others1,v9,v10,()),())) v_.1.1 v_.1.2.1 v_.1.2.2.1 v_.1.2.2.2.1 v_.1.2.2.2.2.1) ((s1,most1,others1,v9,v10,()),())
theorem Q61_L1_run (N:Nat) (s1:Nat→ByteArray) (most1:Nat→Int) (others1:Nat→ByteArray) (v9:Nat→Int) (v10:Nat→Int) (n_:Nat) {res_:Option Y6} (hstep_:∀j_,j_<n_→∀kx_,Q61_B1 N kx_ (s1 j_) (most1 j_) (others1 j_) (v9 j_) (v10 j_)=kx_ (s1 (j_+1)) (most1 (j_+1)) (others1 (j_+1)) (v9 (j_+1)) (v10 (j_+1))) (hend_:∀kx_,Q61_B1 N kx_ (s1 n_) (most1 n_) (others1 n_) (v9 n_) (v10 n_)=res_) (fu_:Nat) (hm_:n_<fu_):Q61_L1 N fu_ (s1 0) (most1 0) (others1 0) (v9 0) (v10 0)=res_:=by
  exact loop_run (L:=fun fu_ (x_:ByteArray×Int×ByteArray×Int×Int)=>Q61_L1 N fu_ x_.1 x_.2.1 x_.2.2.1 x_.2.2.2.1 x_.2.2.2.2) (B:=fun kx_ x_=>Q61_B1 N (fun s1 most1 others1 v9 v10=>kx_ (s1,most1,others1,v9,v10)) x_.1 x_.2.1 x_.2.2.1 x_.2.2.2.1 x_.2.2.2.2) (fun _ _=>rfl) (fun j_=>(s1 j_,most1 j_,others1 j_,v9 j_,v10 j_)) n_ (fun j_ hi_ kx_=>hstep_ j_ hi_ _) (fun kx_=>hend_ _) fu_ hm_
def Q61 (N:Nat) (s:ByteArray) (most:Int) (others:ByteArray):Option Y6:=
  Q61_L1 N N s most others (slen s) 0
def Q59 (N:Nat) (s:ByteArray):Option Y6:=
  bif !(Go.Rx.seq s (⟨#[]⟩:ByteArray)) then
    (Q61 N s 160 (⟨#[35,64]⟩:ByteArray)).bind fun r=>
    some (r.1,())
  else
    some (false,())
def Q35 (N:Nat) (e:ByteArray×ByteArray):Option Y6:=
  (Q59 N e.1).bind fun r=>
  bif r.1 then
    (Q61 N e.2 200 (⟨#[35]⟩:ByteArray)).bind fun r1=>
    some (r1.1,())
  else
    some (false,())


def Q55_K1 (N:Nat) (h1:Int):Option Y5:=
  some (h1,())
def Q55_B1 (N:Nat) (kx:ByteArray→Int→Int→Int→Option Y5) (s1:ByteArray) (h:Int) (v6:Int) (v7:Int):Option Y5:=
  bif ilt v7 v6 then
    chk (inB v7 s1.size)<|
    chk (ine 999979 0)<|
    kx s1 (irem (iadd .i64 (iadd .i64 (imul .i64 41 h) (icv .i64 (sbyte s1 v7))) 1) 999979) v6 (iadd .i64 v7 1)
  else
    Q55_K1 N h
def Q55_L1 (N fu_:Nat) (s1:ByteArray) (h:Int) (v6:Int) (v7:Int):Option Y5:=
  iterK fu_ (fun kx (v_:(ByteArray×Int×Int×Int×Unit)×(Unit))=>Q55_B1 N (fun s1 h v6 v7=>kx ((s1,h,v6,v7,()),())) v_.1.1 v_.1.2.1 v_.1.2.2.1 v_.1.2.2.2.1) ((s1,h,v6,v7,()),())
theorem Q55_L1_run (N:Nat) (s1:Nat→ByteArray) (h:Nat→Int) (v6:Nat→Int) (v7:Nat→Int) (n_:Nat) {res_:Option Y5} (hstep_:∀j_,j_<n_→∀kx_,Q55_B1 N kx_ (s1 j_) (h j_) (v6 j_) (v7 j_)=kx_ (s1 (j_+1)) (h (j_+1)) (v6 (j_+1)) (v7 (j_+1))) (hend_:∀kx_,Q55_B1 N kx_ (s1 n_) (h n_) (v6 n_) (v7 n_)=res_) (fu_:Nat) (hm_:n_<fu_):Q55_L1 N fu_ (s1 0) (h 0) (v6 0) (v7 0)=res_:=by
  exact loop_run (L:=fun fu_ (x_:ByteArray×Int×Int×Int)=>Q55_L1 N fu_ x_.1 x_.2.1 x_.2.2.1 x_.2.2.2) (B:=fun kx_ x_=>Q55_B1 N (fun s1 h v6 v7=>kx_ (s1,h,v6,v7)) x_.1 x_.2.1 x_.2.2.1 x_.2.2.2) (fun _ _=>rfl) (fun j_=>(s1 j_,h j_,v6 j_,v7 j_)) n_ (fun j_ hi_ kx_=>hstep_ j_ hi_ _) (fun kx_=>hend_ _) fu_ hm_
def Q55 (N:Nat) (s:ByteArray):Option Y5:=
  Q55_L1 N N s 7 (slen s) 0
def Q3 (N:Nat) (s:ByteArray):Option Y8:=
  bif ilt 4000 (slen s) then
    some (((⟨#[]⟩:ByteArray),false),())
  else
    (strings_Contains N s (⟨#[35]⟩:ByteArray)).bind fun r=>
    bif r.1 then
      some (((⟨#[]⟩:ByteArray),false),())
    else
      chk (sfit s (⟨#[35]⟩:ByteArray))<|
      (Q55 N s).bind fun r1=>
      (strconv_Itoa N r1.1).bind fun r2=>
      chk (sfit (scat s (⟨#[35]⟩:ByteArray)) r2.1)<|
      bif ilt 4000 (slen (scat (scat s (⟨#[35]⟩:ByteArray)) r2.1)) then
        some (((⟨#[]⟩:ByteArray),false),())
      else
        some ((scat (scat s (⟨#[35]⟩:ByteArray)) r2.1,true),())
def Q25 (N:Nat) (kx:Int) (e:ByteArray×ByteArray):Option Y8:=
  (Q68 N kx 0 59).bind fun r=>
  bif !r.1 then
    some (((⟨#[]⟩:ByteArray),false),())
  else
    (Q35 N e).bind fun r1=>
    bif !r1.1 then
      some (((⟨#[]⟩:ByteArray),false),())
    else
      (strconv_Itoa N kx).bind fun r2=>
      chk (sfit r2.1 (⟨#[32]⟩:ByteArray))<|
      chk (sfit (scat r2.1 (⟨#[32]⟩:ByteArray)) e.1)<|
      chk (sfit (scat (scat r2.1 (⟨#[32]⟩:ByteArray)) e.1) (⟨#[64]⟩:ByteArray))<|
      chk (sfit (scat (scat (scat r2.1 (⟨#[32]⟩:ByteArray)) e.1) (⟨#[64]⟩:ByteArray)) e.2)<|
      (Q3 N (scat (scat (scat (scat r2.1 (⟨#[32]⟩:ByteArray)) e.1) (⟨#[64]⟩:ByteArray)) e.2)).bind fun r3=>
      chk (sfit r3.1.1 (⟨#[10]⟩:ByteArray))<|
      some ((scat r3.1.1 (⟨#[10]⟩:ByteArray),true),())

def Q50 (N:Nat) (s:ByteArray):Option Y8:=
  (strings_Cut N s (⟨#[35]⟩:ByteArray)).bind fun r=>
  (Q3 N r.1.1).bind fun r1=>
  bif !r1.1.2 then
    some (((⟨#[]⟩:ByteArray),false),())
  else
    bif !(Go.Rx.seq r1.1.1 s) then
      some (((⟨#[]⟩:ByteArray),false),())
    else
      some ((r.1.1,true),())
def Q64_K1 (N:Nat) (records1:List Y15) (ends1:List Int):Option Y20:=
  some ((records1,ends1),())
def Q64_B1 (N:Nat) (kx:ByteArray→Int→(List Y15)→(List Int)→Option Y20) (s1:ByteArray) (atx:Int) (records:List Y15) (ends:List Int):Option Y20:=
  bif ilt (len records) 60 then
    chk (cutB atx (slen s1) s1.size)<|
    (strings_Cut N (scut s1 atx (slen s1)) (⟨#[10]⟩:ByteArray)).bind fun r=>
    bif !r.1.2.2 then
      Q64_K1 N records ends
    else
      (Q50 N r.1.1).bind fun r1=>
      (strings_Cut N r1.1.1 (⟨#[32]⟩:ByteArray)).bind fun r2=>
      (strings_Cut N r2.1.2.1 (⟨#[64]⟩:ByteArray)).bind fun r3=>
      (Q25 N (len records) (r3.1.1,r3.1.2.1)).bind fun r4=>
      bif !r4.1.2 then
        Q64_K1 N records ends
      else
        chk (sfit r.1.1 (⟨#[10]⟩:ByteArray))<|
        bif !(Go.Rx.seq r4.1.1 (scat r.1.1 (⟨#[10]⟩:ByteArray))) then
          Q64_K1 N records ends
        else
          chk (fitB (records.length+1) 32)<|
          chk (fitB (ends.length+1) 8)<|
          kx s1 (iadd .i64 atx (iadd .i64 (slen r.1.1) 1)) (records++[(r3.1.1,r3.1.2.1)]) (ends++[iadd .i64 atx (iadd .i64 (slen r.1.1) 1)])
  else
    Q64_K1 N records ends
def Q64_L1 (N fu_:Nat) (s1:ByteArray) (atx:Int) (records:List Y15) (ends:List Int):Option Y20:=
  iterK fu_ (fun kx (v_:(ByteArray×Int×Unit)×((List Y15)×(List Int)×Unit))=>Q64_B1 N (fun s1 atx records ends=>kx ((s1,atx,()),(records,ends,()))) v_.1.1 v_.1.2.1 v_.2.1 v_.2.2.1) ((s1,atx,()),(records,ends,()))
theorem Q64_L1_succ (N fu_:Nat) (s1:ByteArray) (atx:Int) (records:List Y15) (ends:List Int):Q64_L1 N (fu_+1) s1 atx records ends=Q64_B1 N (fun s1 atx records ends=>Q64_L1 N fu_ s1 atx records ends) s1 atx records ends:=rfl
def Q64 (N:Nat) (s:ByteArray):Option Y20:=
  Q64_L1 N N s 0 [] [0]
def Q83_K1 (N:Nat):Option Y5:=
  some ((-1),())
def Q83_B1 (N:Nat) (kx:(List Int)→Int→Int→Int→Option Y5) (s1:List Int) (v1:Int) (v7:Int) (v8:Int):Option Y5:=
  bif ilt v8 v7 then
    chk (inB v8 s1.length)<|
    bif ieq v1 (gd s1 v8.toNat 0) then
      some (v8,())
    else
      kx s1 v1 v7 (iadd .i64 v8 1)
  else
    Q83_K1 N
def Q83_L1 (N fu_:Nat) (s1:List Int) (v1:Int) (v7:Int) (v8:Int):Option Y5:=
  iterK fu_ (fun kx (v_:((List Int)×Int×Int×Int×Unit)×(Unit))=>Q83_B1 N (fun s1 v1 v7 v8=>kx ((s1,v1,v7,v8,()),())) v_.1.1 v_.1.2.1 v_.1.2.2.1 v_.1.2.2.2.1) ((s1,v1,v7,v8,()),())
theorem Q83_L1_run (N:Nat) (s1:Nat→(List Int)) (v1:Nat→Int) (v7:Nat→Int) (v8:Nat→Int) (n_:Nat) {res_:Option Y5} (hstep_:∀j_,j_<n_→∀kx_,Q83_B1 N kx_ (s1 j_) (v1 j_) (v7 j_) (v8 j_)=kx_ (s1 (j_+1)) (v1 (j_+1)) (v7 (j_+1)) (v8 (j_+1))) (hend_:∀kx_,Q83_B1 N kx_ (s1 n_) (v1 n_) (v7 n_) (v8 n_)=res_) (fu_:Nat) (hm_:n_<fu_):Q83_L1 N fu_ (s1 0) (v1 0) (v7 0) (v8 0)=res_:=by
  exact loop_run (L:=fun fu_ (x_:(List Int)×Int×Int×Int)=>Q83_L1 N fu_ x_.1 x_.2.1 x_.2.2.1 x_.2.2.2) (B:=fun kx_ x_=>Q83_B1 N (fun s1 v1 v7 v8=>kx_ (s1,v1,v7,v8)) x_.1 x_.2.1 x_.2.2.1 x_.2.2.2) (fun _ _=>rfl) (fun j_=>(s1 j_,v1 j_,v7 j_,v8 j_)) n_ (fun j_ hi_ kx_=>hstep_ j_ hi_ _) (fun kx_=>hend_ _) fu_ hm_
def Q83 (N:Nat) (s:List Int) (v:Int):Option Y5:=
  Q83_L1 N N s v (len s) 0
def Q82 (N:Nat) (s:List Int) (v:Int):Option Y6:=
  (Q83 N s v).bind fun r=>
  some (ile 0 r.1,())
def Q34 (N:Nat) (l:ByteArray×ByteArray×Int):Option Y6:=
  bif ilt 30000 (iadd .i64 (slen l.1) (slen l.2.1)) then
    some (false,())
  else
    chk (sfit l.1 l.2.1)<|
    (Q64 N (scat l.1 l.2.1)).bind fun r=>
    chk (inB (len r.1.1) r.1.2.length)<|
    bif ieq (gd r.1.2 (len r.1.1).toNat 0) (iadd .i64 (slen l.1) (slen l.2.1)) then
      bif ieq l.2.2 (len r.1.1) then
        (Q82 N r.1.2 (slen l.1)).bind fun r1=>
        some (r1.1,())
      else
        some (false,())
    else
      some (false,())
def Q33 (N:Nat) (c:Y2×ByteArray×ByteArray×Int):Option Y6:=
  (Q32 N c.1).bind fun r=>
  bif r.1 then
    (Q34 N c.2).bind fun r1=>
    some (r1.1,())
  else
    some (false,())


def Q44 (N:Nat) (s:ByteArray):Option Y9:=
  bif ilt 7 (slen s) then
    some ((0,false),())
  else
    (strconv_Atoi N s).bind fun r=>
    bif !r.1.2 then
      some ((0,false),())
    else
      (Q68 N r.1.1 (-999999) 999999).bind fun r1=>
      bif !r1.1 then
        some ((0,false),())
      else
        (strconv_Itoa N r.1.1).bind fun r2=>
        bif !(Go.Rx.seq r2.1 s) then
          some ((0,false),())
        else
          some ((r.1.1,true),())

def Q20_K1 (N:Nat) (kx:(List Int)→Int→(List Int)→Int→Int→(List Int)→Option Y4) (periods3:List Int) (next2:Int) (need1:Int) (v152:List Int) (v162:Int) (v172:Int) (plan2:List Int):Option Y4:=
  bif ieq next2 0 then
    bif ilt 0 need1 then
      some (([],false),())
    else
      kx periods3 next2 v152 v162 (iadd .i64 v172 1) plan2
  else
    chk (inB (isub .i64 next2 1) periods3.length)<|
    chk (inB (gd periods3 (isub .i64 next2 1).toNat 0) plan2.length)<|
    chk (inB (gd periods3 (isub .i64 next2 1).toNat 0) plan2.length)<|
    kx periods3 next2 v152 v162 (iadd .i64 v172 1) (List.set plan2 (gd periods3 (isub .i64 next2 1).toNat 0).toNat (iadd .i64 (gd plan2 (gd periods3 (isub .i64 next2 1).toNat 0).toNat 0) need1))
def Q20_K2 (N:Nat) (kx:(List Int)→Int→(List Int)→Int→Int→(List Int)→Option Y4) (periods2:List Int) (next1:Int) (need:Int) (v151:List Int) (v161:Int) (v171:Int) (v33:Bool) (plan1:List Int):Option Y4:=
  bif v33 then
    Q20_K1 N kx periods2 (iadd .i64 next1 1) need v151 v161 v171 plan1
  else
    Q20_K1 N kx periods2 next1 need v151 v161 v171 plan1
def Q20_K3 (N:Nat) (plan3:List Int):Option Y4:=
  some ((plan3,true),())
def Q20_B1 (N:Nat) (kx:(List Int)→Int→(List Int)→Int→Int→(List Int)→Option Y4) (periods1:List Int) (next:Int) (v15:List Int) (v16:Int) (v17:Int) (plan:List Int):Option Y4:=
  bif ilt v17 v16 then
    chk (inB v17 v15.length)<|
    bif ilt next (len periods1) then
      chk (inB next periods1.length)<|
      Q20_K2 N kx periods1 next (gd v15 v17.toNat 0) v15 v16 v17 (ieq (gd periods1 next.toNat 0) v17) plan
    else
      Q20_K2 N kx periods1 next (gd v15 v17.toNat 0) v15 v16 v17 false plan
  else
    Q20_K3 N plan
def Q20_L1 (N fu_:Nat) (periods1:List Int) (next:Int) (v15:List Int) (v16:Int) (v17:Int) (plan:List Int):Option Y4:=
  iterK fu_ (fun kx (v_:((List Int)×Int×(List Int)×Int×Int×Unit)×Y1)=>Q20_B1 N (fun periods1 next v15 v16 v17 plan=>kx ((periods1,next,v15,v16,v17,()),(plan,()))) v_.1.1 v_.1.2.1 v_.1.2.2.1 v_.1.2.2.2.1 v_.1.2.2.2.2.1 v_.2.1) ((periods1,next,v15,v16,v17,()),(plan,()))
theorem Q20_L1_run (N:Nat) (periods1:Nat→(List Int)) (next:Nat→Int) (v15:Nat→(List Int)) (v16:Nat→Int) (v17:Nat→Int) (plan:Nat→(List Int)) (n_:Nat) {res_:Option Y4} (hstep_:∀j_,j_<n_→∀kx_,Q20_B1 N kx_ (periods1 j_) (next j_) (v15 j_) (v16 j_) (v17 j_) (plan j_)=kx_ (periods1 (j_+1)) (next (j_+1)) (v15 (j_+1)) (v16 (j_+1)) (v17 (j_+1)) (plan (j_+1))) (hend_:∀kx_,Q20_B1 N kx_ (periods1 n_) (next n_) (v15 n_) (v16 n_) (v17 n_) (plan n_)=res_) (fu_:Nat) (hm_:n_<fu_):Q20_L1 N fu_ (periods1 0) (next 0) (v15 0) (v16 0) (v17 0) (plan 0)=res_:=by
  exact loop_run (L:=fun fu_ (x_:(List Int)×Int×(List Int)×Int×Int×(List Int))=>Q20_L1 N fu_ x_.1 x_.2.1 x_.2.2.1 x_.2.2.2.1 x_.2.2.2.2.1 x_.2.2.2.2.2) (B:=fun kx_ x_=>Q20_B1 N (fun periods1 next v15 v16 v17 plan=>kx_ (periods1,next,v15,v16,v17,plan)) x_.1 x_.2.1 x_.2.2.1 x_.2.2.2.1 x_.2.2.2.2.1 x_.2.2.2.2.2) (fun _ _=>rfl) (fun j_=>(periods1 j_,next j_,v15 j_,v16 j_,v17 j_,plan j_)) n_ (fun j_ hi_ kx_=>hstep_ j_ hi_ _) (fun kx_=>hend_ _) fu_ hm_
def Q20 (N:Nat) (c:(List Int)×(List Int)×(List Int)×(List Int)) (periods:List Int):Option Y4:=
  chk (mkB (len c.1) 8)<|
  Q20_L1 N N periods 0 c.1 (len c.1) 0 (List.replicate (len c.1).toNat 0)
def Q19_K1 (N:Nat) (kx:Int→Int→Int→Int→(List Int)→Int→Int→Y0→Option Y16) (setups1:Int) (units1:Int) (holds1:Int) (stock1:Int) (i:Int) (amount:Int) (v131:List Int) (v141:Int) (v151:Int) (c2:(List Int)×(List Int)×(List Int)×(List Int)):Option Y16:=
  chk (inB i c2.2.2.1.length)<|
  chk (inB i c2.2.2.2.length)<|
  kx setups1 (iadd .i64 units1 (imul .i64 (gd c2.2.2.1 i.toNat 0) amount)) (iadd .i64 holds1 (imul .i64 (gd c2.2.2.2 i.toNat 0) stock1)) stock1 v131 v141 (iadd .i64 v151 1) c2
def Q19_K2 (N:Nat) (setups2:Int) (units2:Int) (holds2:Int):Option Y16:=
  some ((setups2,(units2,holds2)),())
def Q19_B1 (N:Nat) (kx:Int→Int→Int→Int→(List Int)→Int→Int→Y0→Option Y16) (setups:Int) (units:Int) (holds:Int) (stock:Int) (v13:List Int) (v14:Int) (v15:Int) (c1:(List Int)×(List Int)×(List Int)×(List Int)):Option Y16:=
  bif ilt v15 v14 then
    chk (inB v15 v13.length)<|
    chk (inB v15 c1.1.length)<|
    bif ilt 0 (gd v13 v15.toNat 0) then
      chk (inB v15 c1.2.1.length)<|
      Q19_K1 N kx (iadd .i64 setups (gd c1.2.1 v15.toNat 0)) units holds (iadd .i64 stock (isub .i64 (gd v13 v15.toNat 0) (gd c1.1 v15.toNat 0))) v15 (gd v13 v15.toNat 0) v13 v14 v15 c1
    else
      Q19_K1 N kx setups units holds (iadd .i64 stock (isub .i64 (gd v13 v15.toNat 0) (gd c1.1 v15.toNat 0))) v15 (gd v13 v15.toNat 0) v13 v14 v15 c1
  else
    Q19_K2 N setups units holds
def Q19_L1 (N fu_:Nat) (setups:Int) (units:Int) (holds:Int) (stock:Int) (v13:List Int) (v14:Int) (v15:Int) (c1:(List Int)×(List Int)×(List Int)×(List Int)):Option Y16:=
  iterK fu_ (fun kx (v_:(Int×Int×Int×Int×(List Int)×Int×Int×Unit)×(Y0×Unit))=>Q19_B1 N (fun setups units holds stock v13 v14 v15 c1=>kx ((setups,units,holds,stock,v13,v14,v15,()),(c1,()))) v_.1.1 v_.1.2.1 v_.1.2.2.1 v_.1.2.2.2.1 v_.1.2.2.2.2.1 v_.1.2.2.2.2.2.1 v_.1.2.2.2.2.2.2.1 v_.2.1) ((setups,units,holds,stock,v13,v14,v15,()),(c1,()))
theorem Q19_L1_run (N:Nat) (setups:Nat→Int) (units:Nat→Int) (holds:Nat→Int) (stock:Nat→Int) (v13:Nat→(List Int)) (v14:Nat→Int) (v15:Nat→Int) (c1:Nat→Y0) (n_:Nat) {res_:Option Y16} (hstep_:∀j_,j_<n_→∀kx_,Q19_B1 N kx_ (setups j_) (units j_) (holds j_) (stock j_) (v13 j_) (v14 j_) (v15 j_) (c1 j_)=kx_ (setups (j_+1)) (units (j_+1)) (holds (j_+1)) (stock (j_+1)) (v13 (j_+1)) (v14 (j_+1)) (v15 (j_+1)) (c1 (j_+1))) (hend_:∀kx_,Q19_B1 N kx_ (setups n_) (units n_) (holds n_) (stock n_) (v13 n_) (v14 n_) (v15 n_) (c1 n_)=res_) (fu_:Nat) (hm_:n_<fu_):Q19_L1 N fu_ (setups 0) (units 0) (holds 0) (stock 0) (v13 0) (v14 0) (v15 0) (c1 0)=res_:=by
  exact loop_run (L:=fun fu_ (x_:Int×Int×Int×Int×(List Int)×Int×Int×Y0)=>Q19_L1 N fu_ x_.1 x_.2.1 x_.2.2.1 x_.2.2.2.1 x_.2.2.2.2.1 x_.2.2.2.2.2.1 x_.2.2.2.2.2.2.1 x_.2.2.2.2.2.2.2) (B:=fun kx_ x_=>Q19_B1 N (fun setups units holds stock v13 v14 v15 c1=>kx_ (setups,units,holds,stock,v13,v14,v15,c1)) x_.1 x_.2.1 x_.2.2.1 x_.2.2.2.1 x_.2.2.2.2.1 x_.2.2.2.2.2.1 x_.2.2.2.2.2.2.1 x_.2.2.2.2.2.2.2) (fun _ _=>rfl) (fun j_=>(setups j_,units j_,holds j_,stock j_,v13 j_,v14 j_,v15 j_,c1 j_)) n_ (fun j_ hi_ kx_=>hstep_ j_ hi_ _) (fun kx_=>hend_ _) fu_ hm_
def Q19 (N:Nat) (c:(List Int)×(List Int)×(List Int)×(List Int)) (plan:List Int):Option Y16:=
  Q19_L1 N N 0 0 0 0 plan (len plan) 0 c
def Q13 (N:Nat) (c:(List Int)×(List Int)×(List Int)×(List Int)) (plan:List Int):Option Y5:=
  (Q19 N c plan).bind fun r=>
  some (iadd .i64 (iadd .i64 r.1.1 r.1.2.1) r.1.2.2,())
def Q1 (N:Nat) (x:Int):Option Y6:=
  some (ine x x,())
def Q0 (N:Nat) (x:Int) (y:Int):Option Y5:=
  (Q1 N x).bind fun r=>
  (Q1 N y).bind fun r1=>
  bif r.1 then
    bif r1.1 then
      some (0,())
    else
      some ((-1),())
  else
    bif r1.1 then
      some (1,())
    else
      bif ilt x y then
        some ((-1),())
      else
        bif ilt y x then
          some (1,())
        else
          some (0,())
def Q81_K1 (N:Nat) (s12:List Int) (s22:List Int):Option Y5:=
  bif ilt (len s12) (len s22) then
    some ((-1),())
  else
    some (0,())
def Q81_B1 (N:Nat) (kx:(List Int)→(List Int)→(List Int)→Int→Int→Option Y5) (s11:List Int) (s21:List Int) (v9:List Int) (v10:Int) (v11:Int):Option Y5:=
  bif ilt v11 v10 then
    chk (inB v11 v9.length)<|
    bif ile (len s21) v11 then
      some (1,())
    else
      chk (inB v11 s21.length)<|
      (Q0 N (gd v9 v11.toNat 0) (gd s21 v11.toNat 0)).bind fun r=>
      bif ine r.1 0 then
        some (r.1,())
      else
        kx s11 s21 v9 v10 (iadd .i64 v11 1)
  else
    Q81_K1 N s11 s21
def Q81_L1 (N fu_:Nat) (s11:List Int) (s21:List Int) (v9:List Int) (v10:Int) (v11:Int):Option Y5:=
  iterK fu_ (fun kx (v_:((List Int)×(List Int)×(List Int)×Int×Int×Unit)×(Unit))=>Q81_B1 N (fun s11 s21 v9 v10 v11=>kx ((s11,s21,v9,v10,v11,()),())) v_.1.1 v_.1.2.1 v_.1.2.2.1 v_.1.2.2.2.1 v_.1.2.2.2.2.1) ((s11,s21,v9,v10,v11,()),())
theorem Q81_L1_run (N:Nat) (s11:Nat→(List Int)) (s21:Nat→(List Int)) (v9:Nat→(List Int)) (v10:Nat→Int) (v11:Nat→Int) (n_:Nat) {res_:Option Y5} (hstep_:∀j_,j_<n_→∀kx_,Q81_B1 N kx_ (s11 j_) (s21 j_) (v9 j_) (v10 j_) (v11 j_)=kx_ (s11 (j_+1)) (s21 (j_+1)) (v9 (j_+1)) (v10 (j_+1)) (v11 (j_+1))) (hend_:∀kx_,Q81_B1 N kx_ (s11 n_) (s21 n_) (v9 n_) (v10 n_) (v11 n_)=res_) (fu_:Nat) (hm_:n_<fu_):Q81_L1 N fu_ (s11 0) (s21 0) (v9 0) (v10 0) (v11 0)=res_:=by
  exact loop_run (L:=fun fu_ (x_:(List Int)×(List Int)×(List Int)×Int×Int)=>Q81_L1 N fu_ x_.1 x_.2.1 x_.2.2.1 x_.2.2.2.1 x_.2.2.2.2) (B:=fun kx_ x_=>Q81_B1 N (fun s11 s21 v9 v10 v11=>kx_ (s11,s21,v9,v10,v11)) x_.1 x_.2.1 x_.2.2.1 x_.2.2.2.1 x_.2.2.2.2) (fun _ _=>rfl) (fun j_=>(s11 j_,s21 j_,v9 j_,v10 j_,v11 j_)) n_ (fun j_ hi_ kx_=>hstep_ j_ hi_ _) (fun kx_=>hend_ _) fu_ hm_
def Q81 (N:Nat) (s1:List Int) (s2:List Int):Option Y5:=
  Q81_L1 N N s1 s2 s1 (len s1) 0
def Q9_K1 (N:Nat) (kx:Int→Int→Int→Y0→(List Int)→Option Y7) (least3:Int) (cost:Int) (before:Bool) (v163:Int) (v173:Int) (c4:(List Int)×(List Int)×(List Int)×(List Int)) (best3:List Int) (periods2:List Int):Option Y7:=
  bif ilt least3 0 then
    kx cost v163 (iadd .i64 v173 1) c4 periods2
  else
    bif ilt cost least3 then
      kx cost v163 (iadd .i64 v173 1) c4 periods2
    else
      bif ieq cost least3 then
        bif before then
          kx cost v163 (iadd .i64 v173 1) c4 periods2
        else
          kx least3 v163 (iadd .i64 v173 1) c4 best3
      else
        kx least3 v163 (iadd .i64 v173 1) c4 best3
def Q9_K2 (N:Nat) (kx:Int→Int→Int→Y0→(List Int)→Option Y7) (least2:Int) (v162:Int) (v172:Int) (c3:(List Int)×(List Int)×(List Int)×(List Int)) (best2:List Int) (periods1:List Int):Option Y7:=
  (Q20 N c3 periods1).bind fun r=>
  bif !r.1.2 then
    kx least2 v162 (iadd .i64 v172 1) c3 best2
  else
    (Q13 N c3 r.1.1).bind fun r1=>
    bif ilt (len periods1) (len best2) then
      Q9_K1 N kx least2 r1.1 true v162 v172 c3 best2 periods1
    else
      bif ieq (len periods1) (len best2) then
        (Q81 N periods1 best2).bind fun r2=>
        Q9_K1 N kx least2 r1.1 (ilt r2.1 0) v162 v172 c3 best2 periods1
      else
        Q9_K1 N kx least2 r1.1 false v162 v172 c3 best2 periods1
def Q9_B1 (N:Nat) (kx:Int→Int→Int→Y0→(List Int)→Option Y7) (kx1:Int→Int→Int→Int→Int→Int→Y0→(List Int)→(List Int)→Option Y7) (least1:Int) (setx:Int) (v161:Int) (v171:Int) (v23:Int) (v24:Int) (c2:(List Int)×(List Int)×(List Int)×(List Int)) (best1:List Int) (periods:List Int):Option Y7:=
  bif ilt v24 v23 then
    chk (ile 0 v24)<|
    bif ieq (iand .i64 (ishr .i64 setx v24) 1) 1 then
      chk (fitB (periods.length+1) 8)<|
      kx1 least1 setx v161 v171 v23 (iadd .i64 v24 1) c2 best1 (periods++[v24])
    else
      kx1 least1 setx v161 v171 v23 (iadd .i64 v24 1) c2 best1 periods
  else
    Q9_K2 N kx least1 v161 v171 c2 best1 periods
def Q9_L1 (N fu_:Nat) (kx:Int→Int→Int→Y0→(List Int)→Option Y7) (least1:Int) (setx:Int) (v161:Int) (v171:Int) (v23:Int) (v24:Int) (c2:(List Int)×(List Int)×(List Int)×(List Int)) (best1:List Int) (periods:List Int):Option Y7:=
  iterK fu_ (fun kx1 (v_:(Int×Int×Int×Int×Int×Int×Unit)×Y23)=>Q9_B1 N kx (fun least1 setx v161 v171 v23 v24 c2 best1 periods=>kx1 ((least1,setx,v161,v171,v23,v24,()),(c2,best1,periods,()))) v_.1.1 v_.1.2.1 v_.1.2.2.1 v_.1.2.2.2.1 v_.1.2.2.2.2.1 v_.1.2.2.2.2.2.1 v_.2.1 v_.2.2.1 v_.2.2.2.1) ((least1,setx,v161,v171,v23,v24,()),(c2,best1,periods,()))
theorem Q9_L1_run (N:Nat) (kx:Int→Int→Int→Y0→(List Int)→Option Y7) (least1:Nat→Int) (setx:Nat→Int) (v161:Nat→Int) (v171:Nat→Int) (v23:Nat→Int) (v24:Nat→Int) (c2:Nat→Y0) (best1:Nat→(List Int)) (periods:Nat→(List Int)) (n_:Nat) {res_:Option Y7} (hstep_:∀j_,j_<n_→∀kx_,Q9_B1 N kx kx_ (least1 j_) (setx j_) (v161 j_) (v171 j_) (v23 j_) (v24 j_) (c2 j_) (best1 j_) (periods j_)=kx_ (least1 (j_+1)) (setx (j_+1)) (v161 (j_+1)) (v171 (j_+1)) (v23 (j_+1)) (v24 (j_+1)) (c2 (j_+1)) (best1 (j_+1)) (periods (j_+1))) (hend_:∀kx_,Q9_B1 N kx kx_ (least1 n_) (setx n_) (v161 n_) (v171 n_) (v23 n_) (v24 n_) (c2 n_) (best1 n_) (periods n_)=res_) (fu_:Nat) (hm_:n_<fu_):Q9_L1 N fu_ kx (least1 0) (setx 0) (v161 0) (v171 0) (v23 0) (v24 0) (c2 0) (best1 0) (periods 0)=res_:=by
  exact loop_run (L:=fun fu_ (x_:Int×Int×Int×Int×Int×Int×Y0×(List Int)×(List Int))=>Q9_L1 N fu_ kx x_.1 x_.2.1 x_.2.2.1 x_.2.2.2.1 x_.2.2.2.2.1 x_.2.2.2.2.2.1 x_.2.2.2.2.2.2.1 x_.2.2.2.2.2.2.2.1 x_.2.2.2.2.2.2.2.2) (B:=fun kx_ x_=>Q9_B1 N kx (fun least1 setx v161 v171 v23 v24 c2 best1 periods=>kx_ (least1,setx,v161,v171,v23,v24,c2,best1,periods)) x_.1 x_.2.1 x_.2.2.1 x_.2.2.2.1 x_.2.2.2.2.1 x_.2.2.2.2.2.1 x_.2.2.2.2.2.2.1 x_.2.2.2.2.2.2.2.1 x_.2.2.2.2.2.2.2.2) (fun _ _=>rfl) (fun j_=>(least1 j_,setx j_,v161 j_,v171 j_,v23 j_,v24 j_,c2 j_,best1 j_,periods j_)) n_ (fun j_ hi_ kx_=>hstep_ j_ hi_ _) (fun kx_=>hend_ _) fu_ hm_
def Q9_K3 (N:Nat) (least4:Int) (best4:List Int):Option Y7:=
  some ((best4,least4),())
def Q9_B2 (N:Nat) (kx:Int→Int→Int→Y0→(List Int)→Option Y7) (least:Int) (v16:Int) (v17:Int) (c1:(List Int)×(List Int)×(List Int)×(List Int)) (best:List Int):Option Y7:=
  bif ilt v17 v16 then
    Q9_L1 N N kx least v17 v16 v17 (len c1.1) 0 c1 best []
  else
    Q9_K3 N least best
def Q9_L2 (N fu_:Nat) (least:Int) (v16:Int) (v17:Int) (c1:(List Int)×(List Int)×(List Int)×(List Int)) (best:List Int):Option Y7:=
  iterK fu_ (fun kx (v_:Y17×Y13)=>Q9_B2 N (fun least v16 v17 c1 best=>kx ((least,v16,v17,()),(c1,best,()))) v_.1.1 v_.1.2.1 v_.1.2.2.1 v_.2.1 v_.2.2.1) ((least,v16,v17,()),(c1,best,()))
theorem Q9_L2_run (N:Nat) (least:Nat→Int) (v16:Nat→Int) (v17:Nat→Int) (c1:Nat→Y0) (best:Nat→(List Int)) (n_:Nat) {res_:Option Y7} (hstep_:∀j_,j_<n_→∀kx_,Q9_B2 N kx_ (least j_) (v16 j_) (v17 j_) (c1 j_) (best j_)=kx_ (least (j_+1)) (v16 (j_+1)) (v17 (j_+1)) (c1 (j_+1)) (best (j_+1))) (hend_:∀kx_,Q9_B2 N kx_ (least n_) (v16 n_) (v17 n_) (c1 n_) (best n_)=res_) (fu_:Nat) (hm_:n_<fu_):Q9_L2 N fu_ (least 0) (v16 0) (v17 0) (c1 0) (best 0)=res_:=by
  exact loop_run (L:=fun fu_ (x_:Int×Int×Int×Y0×(List Int))=>Q9_L2 N fu_ x_.1 x_.2.1 x_.2.2.1 x_.2.2.2.1 x_.2.2.2.2) (B:=fun kx_ x_=>Q9_B2 N (fun least v16 v17 c1 best=>kx_ (least,v16,v17,c1,best)) x_.1 x_.2.1 x_.2.2.1 x_.2.2.2.1 x_.2.2.2.2) (fun _ _=>rfl) (fun j_=>(least j_,v16 j_,v17 j_,c1 j_,best j_)) n_ (fun j_ hi_ kx_=>hstep_ j_ hi_ _) (fun kx_=>hend_ _) fu_ hm_
def Q9 (N:Nat) (c:(List Int)×(List Int)×(List Int)×(List Int)):Option Y7:=
  chk (ile 0 (len c.1))<|
  Q9_L2 N N (-1) (ishl .i64 1 (len c.1)) 0 c []
def Q14 (N:Nat) (c:(List Int)×(List Int)×(List Int)×(List Int)) (fromx:Int) (to:Int):Option (Y0×Unit):=
  chk (cutB fromx to c.1.length)<|
  (Q56 N (cut c.1 fromx to)).bind fun r=>
  chk (cutB fromx to c.2.1.length)<|
  (Q56 N (cut c.2.1 fromx to)).bind fun r1=>
  chk (cutB fromx to c.2.2.1.length)<|
  (Q56 N (cut c.2.2.1 fromx to)).bind fun r2=>
  chk (cutB fromx to c.2.2.2.length)<|
  (Q56 N (cut c.2.2.2 fromx to)).bind fun r3=>
  some ((r.1,(r1.1,(r2.1,r3.1))),())
def Q38_K1 (N:Nat) (out1:List Int):Option Y1:=
  some (out1,())
def Q38_B1 (N:Nat) (kx:Int→(List Int)→Int→Int→(List Int)→Option Y1) (stock:Int) (v18:List Int) (v19:Int) (v20:Int) (out:List Int):Option Y1:=
  bif ilt v20 v19 then
    chk (inB v20 v18.length)<|
    chk (fitB (out.length+1) 8)<|
    kx (isub .i64 stock (imin stock (gd v18 v20.toNat 0))) v18 v19 (iadd .i64 v20 1) (out++[isub .i64 (gd v18 v20.toNat 0) (imin stock (gd v18 v20.toNat 0))])
  else
    Q38_K1 N out
def Q38_L1 (N fu_:Nat) (stock:Int) (v18:List Int) (v19:Int) (v20:Int) (out:List Int):Option Y1:=
  iterK fu_ (fun kx (v_:(Int×(List Int)×Int×Int×Unit)×Y1)=>Q38_B1 N (fun stock v18 v19 v20 out=>kx ((stock,v18,v19,v20,()),(out,()))) v_.1.1 v_.1.2.1 v_.1.2.2.1 v_.1.2.2.2.1 v_.2.1) ((stock,v18,v19,v20,()),(out,()))
def Q38 (N:Nat) (l:Y0×(List Int)×Int):Option Y1:=
  (Q41 N l l.2.2).bind fun r=>
  chk (cutB l.2.2 (len l.1.1) l.1.1.length)<|
  Q38_L1 N N r.1 (cut l.1.1 l.2.2 (len l.1.1)) (len (cut l.1.1 l.2.2 (len l.1.1))) 0 []
def Q72_K1 (N:Nat) (nonex1:Bool) (openx:Bool) (l2:Y0×(List Int)×Int) (a2:Int×Int×Int×Int×Int):Option (Bool×Y2):=
  bif ieq a2.1 1 then
    chk (fitB (l2.1.1.length+1) 8)<|
    chk (fitB (l2.1.2.1.length+1) 8)<|
    chk (fitB (l2.1.2.2.1.length+1) 8)<|
    chk (fitB (l2.1.2.2.2.length+1) 8)<|
    chk (fitB (l2.2.1.length+1) 8)<|
    some (true,((l2.1.1++[a2.2.1],(l2.1.2.1++[a2.2.2.1],(l2.1.2.2.1++[a2.2.2.2.1],l2.1.2.2.2++[a2.2.2.2.2]))),(l2.2.1++[0],l2.2.2)))
  else
    bif ieq a2.1 2 then
      bif openx then
        chk (inB a2.2.1 l2.1.1.length)<|
        some (openx,((List.set l2.1.1 a2.2.1.toNat a2.2.2.1,l2.1.2),l2.2))
      else
        some (openx,l2)
    else
      bif ieq a2.1 3 then
        bif openx then
          chk (inB a2.2.1 l2.2.1.length)<|
          some (openx,(l2.1,(List.set l2.2.1 a2.2.1.toNat a2.2.2.1,l2.2.2)))
        else
          some (openx,l2)
      else
        bif ieq a2.1 4 then
          bif nonex1 then
            some (ile (iadd .i64 l2.2.2 1) (len l2.2.1),(l2.1,(l2.2.1,iadd .i64 l2.2.2 1)))
          else
            some (false,(l2.1,(l2.2.1,iadd .i64 l2.2.2 1)))
        else
          bif ieq a2.1 5 then
            (Q14 N l2.1 l2.2.2 (len l2.2.1)).bind fun r1=>
            (Q38 N l2).bind fun r2=>
            (Q9 N (r2.1,r1.1.2)).bind fun r3=>
            (Q20 N (r2.1,r1.1.2) r3.1.1).bind fun r4=>
            chk (cutB l2.2.2 (len l2.2.1) l2.2.1.length)<|
            some (nonex1,(l2.1,(over l2.2.1 l2.2.2.toNat (List.take ((len l2.2.1).toNat - l2.2.2.toNat) r4.1.1),l2.2.2)))
          else
            bif ieq a2.1 6 then
              chk (cutB l2.2.2 (len l2.2.1) l2.2.1.length)<|
              some (nonex1,(l2.1,(over l2.2.1 l2.2.2.toNat (List.replicate ((len l2.2.1).toNat - l2.2.2.toNat) (0:Int)),l2.2.2)))
            else
              some (false,l2)
def Q72_K2 (N:Nat) (nonex:Bool) (l1:Y0×(List Int)×Int) (a1:Int×Int×Int×Int×Int):Option (Bool×Y2):=
  (Q68 N a1.2.1 l1.2.2 (isub .i64 (len l1.2.1) 1)).bind fun r=>
  bif r.1 then
    bif ieq a1.2.2.2.1 0 then
      Q72_K1 N nonex (ieq a1.2.2.2.2 0) l1 a1
    else
      Q72_K1 N nonex false l1 a1
  else
    Q72_K1 N nonex false l1 a1
def Q72 (N:Nat) (l:Y0×(List Int)×Int) (a:Int×Int×Int×Int×Int):Option (Bool×Y2):=
  bif ieq a.2.1 0 then
    bif ieq a.2.2.1 0 then
      bif ieq a.2.2.2.1 0 then
        Q72_K2 N (ieq a.2.2.2.2 0) l a
      else
        Q72_K2 N false l a
    else
      Q72_K2 N false l a
  else
    Q72_K2 N false l a
def Q2 (N:Nat) (l:Y0×(List Int)×Int) (a:Int×Int×Int×Int×Int):Option ((Y2×Bool)×Unit):=
  (Q32 N l).bind fun r=>
  bif !r.1 then
    some (((([],([],([],[]))),([],0)),false),())
  else
    (Q39 N l).bind fun r1=>
    (Q72 N r1.1 a).bind fun r2=>
    bif !r2.1 then
      some (((([],([],([],[]))),([],0)),false),())
    else
      (Q32 N r2.2).bind fun r3=>
      bif !r3.1 then
        some (((([],([],([],[]))),([],0)),false),())
      else
        some ((r2.2,true),())
def Q28 (N:Nat) (n:Int):Option Y8:=
  (Q68 N n (-999999) 999999).bind fun r=>
  bif !r.1 then
    some (((⟨#[]⟩:ByteArray),false),())
  else
    (strconv_Itoa N n).bind fun r1=>
    some ((r1.1,true),())
def Q63 (N:Nat) (n:Int) (ok:Bool):Option Y8:=
  bif !ok then
    some (((⟨#[]⟩:ByteArray),false),())
  else
    (Q28 N n).bind fun r=>
    some ((r.1.1,r.1.2),())
def Q48 (N:Nat) (l:Y0×(List Int)×Int):Option Y9:=
  (Q32 N l).bind fun r=>
  bif !r.1 then
    some ((0,false),())
  else
    (Q41 N l l.2.2).bind fun r1=>
    some ((r1.1,true),())

def Q62_K1 (N:Nat) (words1:List ByteArray):Option Y8:=
  bif ieq (len words1) 0 then
    some (((⟨#[110,111,110,101]⟩:ByteArray),true),())
  else
    (strings_Join N words1 (⟨#[32]⟩:ByteArray)).bind fun r1=>
    some ((r1.1,true),())
def Q62_B1 (N:Nat) (kx:(List Int)→Int→Int→Y11→Option Y8) (v14:List Int) (v15:Int) (v16:Int) (words:List ByteArray):Option Y8:=
  bif ilt v16 v15 then
    chk (inB v16 v14.length)<|
    (Q28 N (gd v14 v16.toNat 0)).bind fun r=>
    bif !r.1.2 then
      some (((⟨#[]⟩:ByteArray),false),())
    else
      chk (fitB (words.length+1) 16)<|
      kx v14 v15 (iadd .i64 v16 1) (words++[r.1.1])
  else
    Q62_K1 N words
def Q62_L1 (N fu_:Nat) (v14:List Int) (v15:Int) (v16:Int) (words:List ByteArray):Option Y8:=
  iterK fu_ (fun kx (v_:Y22×(Y11×Unit))=>Q62_B1 N (fun v14 v15 v16 words=>kx ((v14,v15,v16,()),(words,()))) v_.1.1 v_.1.2.1 v_.1.2.2.1 v_.2.1) ((v14,v15,v16,()),(words,()))
theorem Q62_L1_run (N:Nat) (v14:Nat→(List Int)) (v15:Nat→Int) (v16:Nat→Int) (words:Nat→Y11) (n_:Nat) {res_:Option Y8} (hstep_:∀j_,j_<n_→∀kx_,Q62_B1 N kx_ (v14 j_) (v15 j_) (v16 j_) (words j_)=kx_ (v14 (j_+1)) (v15 (j_+1)) (v16 (j_+1)) (words (j_+1))) (hend_:∀kx_,Q62_B1 N kx_ (v14 n_) (v15 n_) (v16 n_) (words n_)=res_) (fu_:Nat) (hm_:n_<fu_):Q62_L1 N fu_ (v14 0) (v15 0) (v16 0) (words 0)=res_:=by
  exact loop_run (L:=fun fu_ (x_:(List Int)×Int×Int×Y11)=>Q62_L1 N fu_ x_.1 x_.2.1 x_.2.2.1 x_.2.2.2) (B:=fun kx_ x_=>Q62_B1 N (fun v14 v15 v16 words=>kx_ (v14,v15,v16,words)) x_.1 x_.2.1 x_.2.2.1 x_.2.2.2) (fun _ _=>rfl) (fun j_=>(v14 j_,v15 j_,v16 j_,words j_)) n_ (fun j_ hi_ kx_=>hstep_ j_ hi_ _) (fun kx_=>hend_ _) fu_ hm_
def Q62 (N:Nat) (list:List Int) (ok:Bool):Option Y8:=
  bif !ok then
    some (((⟨#[]⟩:ByteArray),false),())
  else
    Q62_L1 N N list (len list) 0 []
def Q40_K1 (N:Nat) (out1:List Int):Option Y1:=
  some (out1,())
def Q40_B1 (N:Nat) (kx:Int→Y2→(List Int)→Option Y1) (i:Int) (l1:Y0×(List Int)×Int) (out:List Int):Option Y1:=
  bif ilt i (len l1.2.1) then
    (Q41 N l1 (iadd .i64 i 1)).bind fun r=>
    bif ilt r.1 0 then
      chk (fitB (out.length+1) 8)<|
      kx (iadd .i64 i 1) l1 (out++[i])
    else
      kx (iadd .i64 i 1) l1 out
  else
    Q40_K1 N out
def Q40_L1 (N fu_:Nat) (i:Int) (l1:Y0×(List Int)×Int) (out:List Int):Option Y1:=
  iterK fu_ (fun kx (v_:Y5×(Y2×(List Int)×Unit))=>Q40_B1 N (fun i l1 out=>kx ((i,()),(l1,out,()))) v_.1.1 v_.2.1 v_.2.2.1) ((i,()),(l1,out,()))
theorem Q40_L1_run (N:Nat) (i:Nat→Int) (l1:Nat→Y2) (out:Nat→(List Int)) (n_:Nat) {res_:Option Y1} (hstep_:∀j_,j_<n_→∀kx_,Q40_B1 N kx_ (i j_) (l1 j_) (out j_)=kx_ (i (j_+1)) (l1 (j_+1)) (out (j_+1))) (hend_:∀kx_,Q40_B1 N kx_ (i n_) (l1 n_) (out n_)=res_) (fu_:Nat) (hm_:n_<fu_):Q40_L1 N fu_ (i 0) (l1 0) (out 0)=res_:=by
  exact loop_run (L:=fun fu_ (x_:Int×Y2×(List Int))=>Q40_L1 N fu_ x_.1 x_.2.1 x_.2.2) (B:=fun kx_ x_=>Q40_B1 N (fun i l1 out=>kx_ (i,l1,out)) x_.1 x_.2.1 x_.2.2) (fun _ _=>rfl) (fun j_=>(i j_,l1 j_,out j_)) n_ (fun j_ hi_ kx_=>hstep_ j_ hi_ _) (fun kx_=>hend_ _) fu_ hm_
def Q40 (N:Nat) (l:Y0×(List Int)×Int):Option Y1:=
  Q40_L1 N N l.2.2 l []
def Q47 (N:Nat) (l:Y0×(List Int)×Int):Option Y4:=
  (Q32 N l).bind fun r=>
  bif !r.1 then
    some (([],false),())
  else
    (Q40 N l).bind fun r1=>
    some ((r1.1,true),())
def Q51 (N:Nat) (l:Y0×(List Int)×Int) (kind:Int):Option Y8:=
  bif ieq kind 1 then
    (Q63 N (len l.2.1) true).bind fun r=>
    some ((r.1.1,r.1.2),())
  else
    bif ieq kind 4 then
      (Q48 N l).bind fun r1=>
      (Q63 N r1.1.1 r1.1.2).bind fun r2=>
      some ((r2.1.1,r2.1.2),())
    else
      bif ieq kind 5 then
        (Q62 N l.2.1 true).bind fun r3=>
        some ((r3.1.1,r3.1.2),())
      else
        (Q47 N l).bind fun r4=>
        (Q62 N r4.1.1 r4.1.2).bind fun r5=>
        some ((r5.1.1,r5.1.2),())
def Q5 (N:Nat) (c:(List Int)×(List Int)×(List Int)×(List Int)):Option Y9:=
  (Q31 N c).bind fun r=>
  bif !r.1 then
    some ((0,false),())
  else
    (Q9 N c).bind fun r1=>
    some ((r1.1.2,true),())
def Q21 (N:Nat) (c:(List Int)×(List Int)×(List Int)×(List Int)) (i:Int) (t:Int):Option Y5:=
  chk (inB i c.2.2.1.length)<|
  chk (cutB i t c.2.2.2.length)<|
  (Q67 N (cut c.2.2.2 i t)).bind fun r=>
  some (iadd .i64 (gd c.2.2.1 i.toNat 0) r.1,())
def Q22_K1 (N:Nat) (sum1:Int):Option Y5:=
  some (sum1,())
def Q22_B1 (N:Nat) (kx:Int→Int→Int→Int→Y0→Option Y5) (i1:Int) (j1:Int) (sum:Int) (t:Int) (c1:(List Int)×(List Int)×(List Int)×(List Int)):Option Y5:=
  bif ilt t j1 then
    chk (inB t c1.1.length)<|
    (Q21 N c1 i1 t).bind fun r1=>
    kx i1 j1 (iadd .i64 sum (imul .i64 (gd c1.1 t.toNat 0) r1.1)) (iadd .i64 t 1) c1
  else
    Q22_K1 N sum
def Q22_L1 (N fu_:Nat) (i1:Int) (j1:Int) (sum:Int) (t:Int) (c1:(List Int)×(List Int)×(List Int)×(List Int)):Option Y5:=
  iterK fu_ (fun kx (v_:(Int×Int×Int×Int×Unit)×(Y0×Unit))=>Q22_B1 N (fun i1 j1 sum t c1=>kx ((i1,j1,sum,t,()),(c1,()))) v_.1.1 v_.1.2.1 v_.1.2.2.1 v_.1.2.2.2.1 v_.2.1) ((i1,j1,sum,t,()),(c1,()))
theorem Q22_L1_run (N:Nat) (i1:Nat→Int) (j1:Nat→Int) (sum:Nat→Int) (t:Nat→Int) (c1:Nat→Y0) (n_:Nat) {res_:Option Y5} (hstep_:∀j_,j_<n_→∀kx_,Q22_B1 N kx_ (i1 j_) (j1 j_) (sum j_) (t j_) (c1 j_)=kx_ (i1 (j_+1)) (j1 (j_+1)) (sum (j_+1)) (t (j_+1)) (c1 (j_+1))) (hend_:∀kx_,Q22_B1 N kx_ (i1 n_) (j1 n_) (sum n_) (t n_) (c1 n_)=res_) (fu_:Nat) (hm_:n_<fu_):Q22_L1 N fu_ (i1 0) (j1 0) (sum 0) (t 0) (c1 0)=res_:=by
  exact loop_run (L:=fun fu_ (x_:Int×Int×Int×Int×Y0)=>Q22_L1 N fu_ x_.1 x_.2.1 x_.2.2.1 x_.2.2.2.1 x_.2.2.2.2) (B:=fun kx_ x_=>Q22_B1 N (fun i1 j1 sum t c1=>kx_ (i1,j1,sum,t,c1)) x_.1 x_.2.1 x_.2.2.1 x_.2.2.2.1 x_.2.2.2.2) (fun _ _=>rfl) (fun j_=>(i1 j_,j1 j_,sum j_,t j_,c1 j_)) n_ (fun j_ hi_ kx_=>hstep_ j_ hi_ _) (fun kx_=>hend_ _) fu_ hm_
def Q22 (N:Nat) (c:(List Int)×(List Int)×(List Int)×(List Int)) (i:Int) (j:Int):Option Y5:=
  chk (cutB i j c.1.length)<|
  (Q67 N (cut c.1 i j)).bind fun r=>
  bif ieq r.1 0 then
    some (0,())
  else
    chk (inB i c.2.1.length)<|
    Q22_L1 N N i j (gd c.2.1 i.toNat 0) i c
def Q15_K1 (N:Nat) (kx:Int→Y0→(List Int)→Option Y1) (j2:Int) (least1:Int) (c3:(List Int)×(List Int)×(List Int)×(List Int)) (out2:List Int):Option Y1:=
  chk (fitB (out2.length+1) 8)<|
  kx (iadd .i64 j2 1) c3 (out2++[least1])
def Q15_B1 (N:Nat) (kx:Int→Y0→(List Int)→Option Y1) (kx1:Int→Int→Int→Y0→(List Int)→Option Y1) (j1:Int) (least:Int) (i:Int) (c2:(List Int)×(List Int)×(List Int)×(List Int)) (out1:List Int):Option Y1:=
  bif ilt i j1 then
    chk (inB i out1.length)<|
    (Q22 N c2 i j1).bind fun r1=>
    kx1 j1 (imin least (iadd .i64 (gd out1 i.toNat 0) r1.1)) (iadd .i64 i 1) c2 out1
  else
    Q15_K1 N kx j1 least c2 out1
def Q15_L1 (N fu_:Nat) (kx:Int→Y0→(List Int)→Option Y1) (j1:Int) (least:Int) (i:Int) (c2:(List Int)×(List Int)×(List Int)×(List Int)) (out1:List Int):Option Y1:=
  iterK fu_ (fun kx1 (v_:Y17×Y13)=>Q15_B1 N kx (fun j1 least i c2 out1=>kx1 ((j1,least,i,()),(c2,out1,()))) v_.1.1 v_.1.2.1 v_.1.2.2.1 v_.2.1 v_.2.2.1) ((j1,least,i,()),(c2,out1,()))
theorem Q15_L1_run (N:Nat) (kx:Int→Y0→(List Int)→Option Y1) (j1:Nat→Int) (least:Nat→Int) (i:Nat→Int) (c2:Nat→Y0) (out1:Nat→(List Int)) (n_:Nat) {res_:Option Y1} (hstep_:∀j_,j_<n_→∀kx_,Q15_B1 N kx kx_ (j1 j_) (least j_) (i j_) (c2 j_) (out1 j_)=kx_ (j1 (j_+1)) (least (j_+1)) (i (j_+1)) (c2 (j_+1)) (out1 (j_+1))) (hend_:∀kx_,Q15_B1 N kx kx_ (j1 n_) (least n_) (i n_) (c2 n_) (out1 n_)=res_) (fu_:Nat) (hm_:n_<fu_):Q15_L1 N fu_ kx (j1 0) (least 0) (i 0) (c2 0) (out1 0)=res_:=by
  exact loop_run (L:=fun fu_ (x_:Int×Int×Int×Y0×(List Int))=>Q15_L1 N fu_ kx x_.1 x_.2.1 x_.2.2.1 x_.2.2.2.1 x_.2.2.2.2) (B:=fun kx_ x_=>Q15_B1 N kx (fun j1 least i c2 out1=>kx_ (j1,least,i,c2,out1)) x_.1 x_.2.1 x_.2.2.1 x_.2.2.2.1 x_.2.2.2.2) (fun _ _=>rfl) (fun j_=>(j1 j_,least j_,i j_,c2 j_,out1 j_)) n_ (fun j_ hi_ kx_=>hstep_ j_ hi_ _) (fun kx_=>hend_ _) fu_ hm_
def Q15_K2 (N:Nat) (out3:List Int):Option Y1:=
  some (out3,())
def Q15_B2 (N:Nat) (kx:Int→Y0→(List Int)→Option Y1) (j:Int) (c1:(List Int)×(List Int)×(List Int)×(List Int)) (out:List Int):Option Y1:=
  bif ile j (len c1.1) then
    chk (inB 0 out.length)<|
    (Q22 N c1 0 j).bind fun r=>
    Q15_L1 N N kx j (iadd .i64 (gd out 0 0) r.1) 1 c1 out
  else
    Q15_K2 N out
def Q15_L2 (N fu_:Nat) (j:Int) (c1:(List Int)×(List Int)×(List Int)×(List Int)) (out:List Int):Option Y1:=
  iterK fu_ (fun kx (v_:Y5×Y13)=>Q15_B2 N (fun j c1 out=>kx ((j,()),(c1,out,()))) v_.1.1 v_.2.1 v_.2.2.1) ((j,()),(c1,out,()))
theorem Q15_L2_succ (N fu_:Nat) (j:Int) (c1:(List Int)×(List Int)×(List Int)×(List Int)) (out:List Int):Q15_L2 N (fu_+1) j c1 out=Q15_B2 N (fun j c1 out=>Q15_L2 N fu_ j c1 out) j c1 out:=rfl
theorem Q15_L2_run (N:Nat) (j:Nat→Int) (c1:Nat→Y0) (out:Nat→(List Int)) (n_:Nat) {res_:Option Y1} (hstep_:∀j_,j_<n_→∀kx_,Q15_B2 N kx_ (j j_) (c1 j_) (out j_)=kx_ (j (j_+1)) (c1 (j_+1)) (out (j_+1))) (hend_:∀kx_,Q15_B2 N kx_ (j n_) (c1 n_) (out n_)=res_) (fu_:Nat) (hm_:n_<fu_):Q15_L2 N fu_ (j 0) (c1 0) (out 0)=res_:=by
  exact loop_run (L:=fun fu_ (x_:Int×Y0×(List Int))=>Q15_L2 N fu_ x_.1 x_.2.1 x_.2.2) (B:=fun kx_ x_=>Q15_B2 N (fun j c1 out=>kx_ (j,c1,out)) x_.1 x_.2.1 x_.2.2) (fun _ _=>rfl) (fun j_=>(j j_,c1 j_,out j_)) n_ (fun j_ hi_ kx_=>hstep_ j_ hi_ _) (fun kx_=>hend_ _) fu_ hm_
def Q15 (N:Nat) (c:(List Int)×(List Int)×(List Int)×(List Int)):Option Y1:=
  Q15_L2 N N 1 c [0]
def Q29 (N:Nat) (c:(List Int)×(List Int)×(List Int)×(List Int)):Option Y4:=
  (Q31 N c).bind fun r=>
  bif !r.1 then
    some (([],false),())
  else
    (Q15 N c).bind fun r1=>
    some ((r1.1,true),())
def Q12_K1 (N:Nat) (sum1:Int):Option Y5:=
  some (sum1,())
def Q12_B1 (N:Nat) (kx:Int→(List Int)→Int→Int→Y0→Option Y5) (i1:Int) (prices1:List Int) (sum:Int) (t:Int) (c1:(List Int)×(List Int)×(List Int)×(List Int)):Option Y5:=
  bif ilt t (len prices1) then
    chk (inB t prices1.length)<|
    chk (inB t c1.1.length)<|
    (Q21 N c1 i1 t).bind fun r=>
    kx i1 prices1 (iadd .i64 sum (imax 0 (isub .i64 (gd prices1 t.toNat 0) (imul .i64 (gd c1.1 t.toNat 0) r.1)))) (iadd .i64 t 1) c1
  else
    Q12_K1 N sum
def Q12_L1 (N fu_:Nat) (i1:Int) (prices1:List Int) (sum:Int) (t:Int) (c1:(List Int)×(List Int)×(List Int)×(List Int)):Option Y5:=
  iterK fu_ (fun kx (v_:(Int×(List Int)×Int×Int×Unit)×(Y0×Unit))=>Q12_B1 N (fun i1 prices1 sum t c1=>kx ((i1,prices1,sum,t,()),(c1,()))) v_.1.1 v_.1.2.1 v_.1.2.2.1 v_.1.2.2.2.1 v_.2.1) ((i1,prices1,sum,t,()),(c1,()))
theorem Q12_L1_run (N:Nat) (i1:Nat→Int) (prices1:Nat→(List Int)) (sum:Nat→Int) (t:Nat→Int) (c1:Nat→Y0) (n_:Nat) {res_:Option Y5} (hstep_:∀j_,j_<n_→∀kx_,Q12_B1 N kx_ (i1 j_) (prices1 j_) (sum j_) (t j_) (c1 j_)=kx_ (i1 (j_+1)) (prices1 (j_+1)) (sum (j_+1)) (t (j_+1)) (c1 (j_+1))) (hend_:∀kx_,Q12_B1 N kx_ (i1 n_) (prices1 n_) (sum n_) (t n_) (c1 n_)=res_) (fu_:Nat) (hm_:n_<fu_):Q12_L1 N fu_ (i1 0) (prices1 0) (sum 0) (t 0) (c1 0)=res_:=by
  exact loop_run (L:=fun fu_ (x_:Int×(List Int)×Int×Int×Y0)=>Q12_L1 N fu_ x_.1 x_.2.1 x_.2.2.1 x_.2.2.2.1 x_.2.2.2.2) (B:=fun kx_ x_=>Q12_B1 N (fun i1 prices1 sum t c1=>kx_ (i1,prices1,sum,t,c1)) x_.1 x_.2.1 x_.2.2.1 x_.2.2.2.1 x_.2.2.2.2) (fun _ _=>rfl) (fun j_=>(i1 j_,prices1 j_,sum j_,t j_,c1 j_)) n_ (fun j_ hi_ kx_=>hstep_ j_ hi_ _) (fun kx_=>hend_ _) fu_ hm_
def Q12 (N:Nat) (c:(List Int)×(List Int)×(List Int)×(List Int)) (i:Int) (prices:List Int):Option Y5:=
  Q12_L1 N N i prices 0 i c
def Q27_K1 (N:Nat) (kx:(List Int)→Int→Int→Y0→(List Int)→Option Y4) (price1:Int) (v152:List Int) (v162:Int) (v172:Int) (c3:(List Int)×(List Int)×(List Int)×(List Int)) (out2:List Int):Option Y4:=
  chk (fitB (out2.length+1) 8)<|
  kx v152 v162 (iadd .i64 v172 1) c3 (out2++[price1])
def Q27_B1 (N:Nat) (kx:(List Int)→Int→Int→Y0→(List Int)→Option Y4) (kx1:Int→Int→Int→(List Int)→Int→Int→Int→Int→Y0→(List Int)→Option Y4) (t:Int) (need:Int) (price:Int) (v151:List Int) (v161:Int) (v171:Int) (v25:Int) (v26:Int) (c2:(List Int)×(List Int)×(List Int)×(List Int)) (out1:List Int):Option Y4:=
  bif ilt v26 v25 then
    (Q21 N c2 v26 t).bind fun r1=>
    chk (inB v26 c2.2.1.length)<|
    (Q12 N c2 v26 out1).bind fun r2=>
    bif ieq v26 0 then
      kx1 t need (isub .i64 (iadd .i64 (imul .i64 need r1.1) (gd c2.2.1 v26.toNat 0)) r2.1) v151 v161 v171 v25 (iadd .i64 v26 1) c2 out1
    else
      bif ilt (isub .i64 (iadd .i64 (imul .i64 need r1.1) (gd c2.2.1 v26.toNat 0)) r2.1) price then
        kx1 t need (isub .i64 (iadd .i64 (imul .i64 need r1.1) (gd c2.2.1 v26.toNat 0)) r2.1) v151 v161 v171 v25 (iadd .i64 v26 1) c2 out1
      else
        kx1 t need price v151 v161 v171 v25 (iadd .i64 v26 1) c2 out1
  else
    Q27_K1 N kx price v151 v161 v171 c2 out1
def Q27_L1 (N fu_:Nat) (kx:(List Int)→Int→Int→Y0→(List Int)→Option Y4) (t:Int) (need:Int) (price:Int) (v151:List Int) (v161:Int) (v171:Int) (v25:Int) (v26:Int) (c2:(List Int)×(List Int)×(List Int)×(List Int)) (out1:List Int):Option Y4:=
  iterK fu_ (fun kx1 (v_:(Int×Int×Int×(List Int)×Int×Int×Int×Int×Unit)×Y13)=>Q27_B1 N kx (fun t need price v151 v161 v171 v25 v26 c2 out1=>kx1 ((t,need,price,v151,v161,v171,v25,v26,()),(c2,out1,()))) v_.1.1 v_.1.2.1 v_.1.2.2.1 v_.1.2.2.2.1 v_.1.2.2.2.2.1 v_.1.2.2.2.2.2.1 v_.1.2.2.2.2.2.2.1 v_.1.2.2.2.2.2.2.2.1 v_.2.1 v_.2.2.1) ((t,need,price,v151,v161,v171,v25,v26,()),(c2,out1,()))
theorem Q27_L1_run (N:Nat) (kx:(List Int)→Int→Int→Y0→(List Int)→Option Y4) (t:Nat→Int) (need:Nat→Int) (price:Nat→Int) (v151:Nat→(List Int)) (v161:Nat→Int) (v171:Nat→Int) (v25:Nat→Int) (v26:Nat→Int) (c2:Nat→Y0) (out1:Nat→(List Int)) (n_:Nat) {res_:Option Y4} (hstep_:∀j_,j_<n_→∀kx_,Q27_B1 N kx kx_ (t j_) (need j_) (price j_) (v151 j_) (v161 j_) (v171 j_) (v25 j_) (v26 j_) (c2 j_) (out1 j_)=kx_ (t (j_+1)) (need (j_+1)) (price (j_+1)) (v151 (j_+1)) (v161 (j_+1)) (v171 (j_+1)) (v25 (j_+1)) (v26 (j_+1)) (c2 (j_+1)) (out1 (j_+1))) (hend_:∀kx_,Q27_B1 N kx kx_ (t n_) (need n_) (price n_) (v151 n_) (v161 n_) (v171 n_) (v25 n_) (v26 n_) (c2 n_) (out1 n_)=res_) (fu_:Nat) (hm_:n_<fu_):Q27_L1 N fu_ kx (t 0) (need 0) (price 0) (v151 0) (v161 0) (v171 0) (v25 0) (v26 0) (c2 0) (out1 0)=res_:=by
  exact loop_run (L:=fun fu_ (x_:Int×Int×Int×(List Int)×Int×Int×Int×Int×Y0×(List Int))=>Q27_L1 N fu_ kx x_.1 x_.2.1 x_.2.2.1 x_.2.2.2.1 x_.2.2.2.2.1 x_.2.2.2.2.2.1 x_.2.2.2.2.2.2.1 x_.2.2.2.2.2.2.2.1 x_.2.2.2.2.2.2.2.2.1 x_.2.2.2.2.2.2.2.2.2) (B:=fun kx_ x_=>Q27_B1 N kx (fun t need price v151 v161 v171 v25 v26 c2 out1=>kx_ (t,need,price,v151,v161,v171,v25,v26,c2,out1)) x_.1 x_.2.1 x_.2.2.1 x_.2.2.2.1 x_.2.2.2.2.1 x_.2.2.2.2.2.1 x_.2.2.2.2.2.2.1 x_.2.2.2.2.2.2.2.1 x_.2.2.2.2.2.2.2.2.1 x_.2.2.2.2.2.2.2.2.2) (fun _ _=>rfl) (fun j_=>(t j_,need j_,price j_,v151 j_,v161 j_,v171 j_,v25 j_,v26 j_,c2 j_,out1 j_)) n_ (fun j_ hi_ kx_=>hstep_ j_ hi_ _) (fun kx_=>hend_ _) fu_ hm_
def Q27_K2 (N:Nat) (out3:List Int):Option Y4:=
  some ((out3,true),())
def Q27_B2 (N:Nat) (kx:(List Int)→Int→Int→Y0→(List Int)→Option Y4) (v15:List Int) (v16:Int) (v17:Int) (c1:(List Int)×(List Int)×(List Int)×(List Int)) (out:List Int):Option Y4:=
  bif ilt v17 v16 then
    chk (inB v17 v15.length)<|
    bif ilt 0 (gd v15 v17.toNat 0) then
      Q27_L1 N N kx v17 (gd v15 v17.toNat 0) 0 v15 v16 v17 (iadd .i64 v17 1) 0 c1 out
    else
      chk (fitB (out.length+1) 8)<|
      kx v15 v16 (iadd .i64 v17 1) c1 (out++[0])
  else
    Q27_K2 N out
def Q27_L2 (N fu_:Nat) (v15:List Int) (v16:Int) (v17:Int) (c1:(List Int)×(List Int)×(List Int)×(List Int)) (out:List Int):Option Y4:=
  iterK fu_ (fun kx (v_:Y22×Y13)=>Q27_B2 N (fun v15 v16 v17 c1 out=>kx ((v15,v16,v17,()),(c1,out,()))) v_.1.1 v_.1.2.1 v_.1.2.2.1 v_.2.1 v_.2.2.1) ((v15,v16,v17,()),(c1,out,()))
theorem Q27_L2_run (N:Nat) (v15:Nat→(List Int)) (v16:Nat→Int) (v17:Nat→Int) (c1:Nat→Y0) (out:Nat→(List Int)) (n_:Nat) {res_:Option Y4} (hstep_:∀j_,j_<n_→∀kx_,Q27_B2 N kx_ (v15 j_) (v16 j_) (v17 j_) (c1 j_) (out j_)=kx_ (v15 (j_+1)) (v16 (j_+1)) (v17 (j_+1)) (c1 (j_+1)) (out (j_+1))) (hend_:∀kx_,Q27_B2 N kx_ (v15 n_) (v16 n_) (v17 n_) (c1 n_) (out n_)=res_) (fu_:Nat) (hm_:n_<fu_):Q27_L2 N fu_ (v15 0) (v16 0) (v17 0) (c1 0) (out 0)=res_:=by
  exact loop_run (L:=fun fu_ (x_:(List Int)×Int×Int×Y0×(List Int))=>Q27_L2 N fu_ x_.1 x_.2.1 x_.2.2.1 x_.2.2.2.1 x_.2.2.2.2) (B:=fun kx_ x_=>Q27_B2 N (fun v15 v16 v17 c1 out=>kx_ (v15,v16,v17,c1,out)) x_.1 x_.2.1 x_.2.2.1 x_.2.2.2.1 x_.2.2.2.2) (fun _ _=>rfl) (fun j_=>(v15 j_,v16 j_,v17 j_,c1 j_,out j_)) n_ (fun j_ hi_ kx_=>hstep_ j_ hi_ _) (fun kx_=>hend_ _) fu_ hm_
def Q27 (N:Nat) (c:(List Int)×(List Int)×(List Int)×(List Int)):Option Y4:=
  (Q31 N c).bind fun r=>
  bif !r.1 then
    some (([],false),())
  else
    Q27_L2 N N c.1 (len c.1) 0 c []
def Q17 (N:Nat) (c:(List Int)×(List Int)×(List Int)×(List Int)) (rule:Int) (i:Int) (j:Int):Option Y6:=
  (Q22 N c i j).bind fun r=>
  (Q22 N c i (iadd .i64 j 1)).bind fun r1=>
  bif ieq rule 1 then
    some (ile (imul .i64 r1.1 (isub .i64 j i)) (imul .i64 r.1 (isub .i64 (iadd .i64 j 1) i)),())
  else
    bif ieq rule 2 then
      chk (cutB i j c.1.length)<|
      (Q67 N (cut c.1 i j)).bind fun r2=>
      chk (cutB i (iadd .i64 j 1) c.1.length)<|
      (Q67 N (cut c.1 i (iadd .i64 j 1))).bind fun r3=>
      some (ile (imul .i64 r1.1 r2.1) (imul .i64 r.1 r3.1),())
    else
      chk (inB i c.2.1.length)<|
      chk (inB i c.2.2.1.length)<|
      chk (cutB i (iadd .i64 j 1) c.1.length)<|
      (Q67 N (cut c.1 i (iadd .i64 j 1))).bind fun r4=>
      chk (inB i c.2.1.length)<|
      some (ile (isub .i64 (isub .i64 r1.1 (gd c.2.1 i.toNat 0)) (imul .i64 (gd c.2.2.1 i.toNat 0) r4.1)) (gd c.2.1 i.toNat 0),())
def Q11_K1 (N:Nat) (kx:Int→Int→Int→Y0→(List Int)→Option Y1) (rule3:Int) (n2:Int) (j1:Int) (c3:(List Int)×(List Int)×(List Int)×(List Int)) (out2:List Int):Option Y1:=
  kx rule3 n2 j1 c3 out2
def Q11_B1 (N:Nat) (kx:Int→Int→Int→Y0→(List Int)→Option Y1) (kx1:Int→Int→Int→Int→Y0→(List Int)→Option Y1) (rule2:Int) (n1:Int) (i1:Int) (j:Int) (c2:(List Int)×(List Int)×(List Int)×(List Int)) (out1:List Int):Option Y1:=
  bif ilt j n1 then
    (Q17 N c2 rule2 i1 j).bind fun r=>
    bif r.1 then
      kx1 rule2 n1 i1 (iadd .i64 j 1) c2 out1
    else
      Q11_K1 N kx rule2 n1 j c2 out1
  else
    Q11_K1 N kx rule2 n1 j c2 out1
def Q11_L1 (N fu_:Nat) (kx:Int→Int→Int→Y0→(List Int)→Option Y1) (rule2:Int) (n1:Int) (i1:Int) (j:Int) (c2:(List Int)×(List Int)×(List Int)×(List Int)) (out1:List Int):Option Y1:=
  iterK fu_ (fun kx1 (v_:(Int×Int×Int×Int×Unit)×Y13)=>Q11_B1 N kx (fun rule2 n1 i1 j c2 out1=>kx1 ((rule2,n1,i1,j,()),(c2,out1,()))) v_.1.1 v_.1.2.1 v_.1.2.2.1 v_.1.2.2.2.1 v_.2.1 v_.2.2.1) ((rule2,n1,i1,j,()),(c2,out1,()))
theorem Q11_L1_run (N:Nat) (kx:Int→Int→Int→Y0→(List Int)→Option Y1) (rule2:Nat→Int) (n1:Nat→Int) (i1:Nat→Int) (j:Nat→Int) (c2:Nat→Y0) (out1:Nat→(List Int)) (n_:Nat) {res_:Option Y1} (hstep_:∀j_,j_<n_→∀kx_,Q11_B1 N kx kx_ (rule2 j_) (n1 j_) (i1 j_) (j j_) (c2 j_) (out1 j_)=kx_ (rule2 (j_+1)) (n1 (j_+1)) (i1 (j_+1)) (j (j_+1)) (c2 (j_+1)) (out1 (j_+1))) (hend_:∀kx_,Q11_B1 N kx kx_ (rule2 n_) (n1 n_) (i1 n_) (j n_) (c2 n_) (out1 n_)=res_) (fu_:Nat) (hm_:n_<fu_):Q11_L1 N fu_ kx (rule2 0) (n1 0) (i1 0) (j 0) (c2 0) (out1 0)=res_:=by
  exact loop_run (L:=fun fu_ (x_:Int×Int×Int×Int×Y0×(List Int))=>Q11_L1 N fu_ kx x_.1 x_.2.1 x_.2.2.1 x_.2.2.2.1 x_.2.2.2.2.1 x_.2.2.2.2.2) (B:=fun kx_ x_=>Q11_B1 N kx (fun rule2 n1 i1 j c2 out1=>kx_ (rule2,n1,i1,j,c2,out1)) x_.1 x_.2.1 x_.2.2.1 x_.2.2.2.1 x_.2.2.2.2.1 x_.2.2.2.2.2) (fun _ _=>rfl) (fun j_=>(rule2 j_,n1 j_,i1 j_,j j_,c2 j_,out1 j_)) n_ (fun j_ hi_ kx_=>hstep_ j_ hi_ _) (fun kx_=>hend_ _) fu_ hm_
def Q11_K2 (N:Nat) (out3:List Int):Option Y1:=
  some (out3,())
def Q11_B2 (N:Nat) (kx:Int→Int→Int→Y0→(List Int)→Option Y1) (rule1:Int) (n:Int) (i:Int) (c1:(List Int)×(List Int)×(List Int)×(List Int)) (out:List Int):Option Y1:=
  bif ilt i n then
    chk (inB i c1.1.length)<|
    bif ieq (gd c1.1 i.toNat 0) 0 then
      kx rule1 n (iadd .i64 i 1) c1 out
    else
      chk (fitB (out.length+1) 8)<|
      Q11_L1 N N kx rule1 n i (iadd .i64 i 1) c1 (out++[i])
  else
    Q11_K2 N out
def Q11_L2 (N fu_:Nat) (rule1:Int) (n:Int) (i:Int) (c1:(List Int)×(List Int)×(List Int)×(List Int)) (out:List Int):Option Y1:=
  iterK fu_ (fun kx (v_:Y17×Y13)=>Q11_B2 N (fun rule1 n i c1 out=>kx ((rule1,n,i,()),(c1,out,()))) v_.1.1 v_.1.2.1 v_.1.2.2.1 v_.2.1 v_.2.2.1) ((rule1,n,i,()),(c1,out,()))
theorem Q11_L2_succ (N fu_:Nat) (rule1:Int) (n:Int) (i:Int) (c1:(List Int)×(List Int)×(List Int)×(List Int)) (out:List Int):Q11_L2 N (fu_+1) rule1 n i c1 out=Q11_B2 N (fun rule1 n i c1 out=>Q11_L2 N fu_ rule1 n i c1 out) rule1 n i c1 out:=rfl
def Q11 (N:Nat) (c:(List Int)×(List Int)×(List Int)×(List Int)) (rule:Int):Option Y1:=
  Q11_L2 N N rule (len c.1) 0 c []
def Q8_K1 (N:Nat) (kx:Int→Int→Y0→(List Int)→Option Y1) (n2:Int) (i2:Int) (c3:(List Int)×(List Int)×(List Int)×(List Int)) (out2:List Int):Option Y1:=
  kx n2 (isub .i64 i2 1) c3 out2
def Q8_B1 (N:Nat) (kx:Int→Int→Y0→(List Int)→Option Y1) (kx1:Int→Int→Int→Y0→(List Int)→Option Y1) (n1:Int) (i1:Int) (j:Int) (c2:(List Int)×(List Int)×(List Int)×(List Int)) (out1:List Int):Option Y1:=
  bif ilt j n1 then
    chk (inB i1 out1.length)<|
    (Q22 N c2 i1 j).bind fun r1=>
    chk (inB j out1.length)<|
    chk (inB i1 out1.length)<|
    kx1 n1 i1 (iadd .i64 j 1) c2 (List.set out1 i1.toNat (imin (gd out1 i1.toNat 0) (iadd .i64 r1.1 (gd out1 j.toNat 0))))
  else
    Q8_K1 N kx n1 i1 c2 out1
def Q8_L1 (N fu_:Nat) (kx:Int→Int→Y0→(List Int)→Option Y1) (n1:Int) (i1:Int) (j:Int) (c2:(List Int)×(List Int)×(List Int)×(List Int)) (out1:List Int):Option Y1:=
  iterK fu_ (fun kx1 (v_:Y17×Y13)=>Q8_B1 N kx (fun n1 i1 j c2 out1=>kx1 ((n1,i1,j,()),(c2,out1,()))) v_.1.1 v_.1.2.1 v_.1.2.2.1 v_.2.1 v_.2.2.1) ((n1,i1,j,()),(c2,out1,()))
theorem Q8_L1_run (N:Nat) (kx:Int→Int→Y0→(List Int)→Option Y1) (n1:Nat→Int) (i1:Nat→Int) (j:Nat→Int) (c2:Nat→Y0) (out1:Nat→(List Int)) (n_:Nat) {res_:Option Y1} (hstep_:∀j_,j_<n_→∀kx_,Q8_B1 N kx kx_ (n1 j_) (i1 j_) (j j_) (c2 j_) (out1 j_)=kx_ (n1 (j_+1)) (i1 (j_+1)) (j (j_+1)) (c2 (j_+1)) (out1 (j_+1))) (hend_:∀kx_,Q8_B1 N kx kx_ (n1 n_) (i1 n_) (j n_) (c2 n_) (out1 n_)=res_) (fu_:Nat) (hm_:n_<fu_):Q8_L1 N fu_ kx (n1 0) (i1 0) (j 0) (c2 0) (out1 0)=res_:=by
  exact loop_run (L:=fun fu_ (x_:Int×Int×Int×Y0×(List Int))=>Q8_L1 N fu_ kx x_.1 x_.2.1 x_.2.2.1 x_.2.2.2.1 x_.2.2.2.2) (B:=fun kx_ x_=>Q8_B1 N kx (fun n1 i1 j c2 out1=>kx_ (n1,i1,j,c2,out1)) x_.1 x_.2.1 x_.2.2.1 x_.2.2.2.1 x_.2.2.2.2) (fun _ _=>rfl) (fun j_=>(n1 j_,i1 j_,j j_,c2 j_,out1 j_)) n_ (fun j_ hi_ kx_=>hstep_ j_ hi_ _) (fun kx_=>hend_ _) fu_ hm_
def Q8_K2 (N:Nat) (out3:List Int):Option Y1:=
  some (out3,())
def Q8_B2 (N:Nat) (kx:Int→Int→Y0→(List Int)→Option Y1) (n:Int) (i:Int) (c1:(List Int)×(List Int)×(List Int)×(List Int)) (out:List Int):Option Y1:=
  bif ile 0 i then
    (Q22 N c1 i n).bind fun r=>
    chk (inB i out.length)<|
    Q8_L1 N N kx n i (iadd .i64 i 1) c1 (List.set out i.toNat r.1)
  else
    Q8_K2 N out
def Q8_L2 (N fu_:Nat) (n:Int) (i:Int) (c1:(List Int)×(List Int)×(List Int)×(List Int)) (out:List Int):Option Y1:=
  iterK fu_ (fun kx (v_:Y19×Y13)=>Q8_B2 N (fun n i c1 out=>kx ((n,i,()),(c1,out,()))) v_.1.1 v_.1.2.1 v_.2.1 v_.2.2.1) ((n,i,()),(c1,out,()))
theorem Q8_L2_run (N:Nat) (n:Nat→Int) (i:Nat→Int) (c1:Nat→Y0) (out:Nat→(List Int)) (n_:Nat) {res_:Option Y1} (hstep_:∀j_,j_<n_→∀kx_,Q8_B2 N kx_ (n j_) (i j_) (c1 j_) (out j_)=kx_ (n (j_+1)) (i (j_+1)) (c1 (j_+1)) (out (j_+1))) (hend_:∀kx_,Q8_B2 N kx_ (n n_) (i n_) (c1 n_) (out n_)=res_) (fu_:Nat) (hm_:n_<fu_):Q8_L2 N fu_ (n 0) (i 0) (c1 0) (out 0)=res_:=by
  exact loop_run (L:=fun fu_ (x_:Int×Int×Y0×(List Int))=>Q8_L2 N fu_ x_.1 x_.2.1 x_.2.2.1 x_.2.2.2) (B:=fun kx_ x_=>Q8_B2 N (fun n i c1 out=>kx_ (n,i,c1,out)) x_.1 x_.2.1 x_.2.2.1 x_.2.2.2) (fun _ _=>rfl) (fun j_=>(n j_,i j_,c1 j_,out j_)) n_ (fun j_ hi_ kx_=>hstep_ j_ hi_ _) (fun kx_=>hend_ _) fu_ hm_
def Q8 (N:Nat) (c:(List Int)×(List Int)×(List Int)×(List Int)):Option Y1:=
  chk (mkB (iadd .i64 (len c.1) 1) 8)<|
  Q8_L2 N N (len c.1) (isub .i64 (len c.1) 1) c (List.replicate (iadd .i64 (len c.1) 1).toNat 0)
def Q45 (N:Nat) (c:(List Int)×(List Int)×(List Int)×(List Int)) (rule:Int):Option Y9:=
  (Q31 N c).bind fun r=>
  bif !r.1 then
    some ((0,false),())
  else
    (Q68 N rule 1 3).bind fun r1=>
    bif !r1.1 then
      some ((0,false),())
    else
      (Q11 N c rule).bind fun r2=>
      (Q20 N c r2.1).bind fun r3=>
      (Q13 N c r3.1.1).bind fun r4=>
      (Q8 N c).bind fun r5=>
      chk (inB 0 r5.1.length)<|
      some ((isub .i64 r4.1 (gd r5.1 0 0),true),())
def Q60 (N:Nat) (life:Int):Option Y6:=
  (Q68 N life 1 8).bind fun r=>
  some (r.1,())
def Q66 (N:Nat) (a:List Int) (b:List Int):Option Y5:=
  bif ine (len a) (len b) then
    some (isub .i64 (len a) (len b),())
  else
    (Q81 N a b).bind fun r=>
    some (r.1,())

def Q65_K1 (N:Nat) (kx:Int→Int→Int→Y10→Option Y18) (n3:Int) (v92:Int) (v102:Int) (out2:List (List Int)) (list1:List Int):Option Y18:=
  chk (fitB (out2.length+1) 24)<|
  kx n3 v92 (iadd .i64 v102 1) (out2++[list1])
def Q65_B1 (N:Nat) (kx:Int→Int→Int→Y10→Option Y18) (kx1:Int→Int→Int→Int→Int→Int→Y10→(List Int)→Option Y18) (n2:Int) (code:Int) (v91:Int) (v101:Int) (v14:Int) (v15:Int) (out1:List (List Int)) (list:List Int):Option Y18:=
  bif ilt v15 v14 then
    chk (ile 0 v15)<|
    bif ieq (iand .i64 (ishr .i64 code v15) 1) 1 then
      chk (fitB (list.length+1) 8)<|
      kx1 n2 code v91 v101 v14 (iadd .i64 v15 1) out1 (list++[v15])
    else
      kx1 n2 code v91 v101 v14 (iadd .i64 v15 1) out1 list
  else
    Q65_K1 N kx n2 v91 v101 out1 list
def Q65_L1 (N fu_:Nat) (kx:Int→Int→Int→Y10→Option Y18) (n2:Int) (code:Int) (v91:Int) (v101:Int) (v14:Int) (v15:Int) (out1:List (List Int)) (list:List Int):Option Y18:=
  iterK fu_ (fun kx1 (v_:(Int×Int×Int×Int×Int×Int×Unit)×(Y10×(List Int)×Unit))=>Q65_B1 N kx (fun n2 code v91 v101 v14 v15 out1 list=>kx1 ((n2,code,v91,v101,v14,v15,()),(out1,list,()))) v_.1.1 v_.1.2.1 v_.1.2.2.1 v_.1.2.2.2.1 v_.1.2.2.2.2.1 v_.1.2.2.2.2.2.1 v_.2.1 v_.2.2.1) ((n2,code,v91,v101,v14,v15,()),(out1,list,()))
theorem Q65_L1_run (N:Nat) (kx:Int→Int→Int→Y10→Option Y18) (n2:Nat→Int) (code:Nat→Int) (v91:Nat→Int) (v101:Nat→Int) (v14:Nat→Int) (v15:Nat→Int) (out1:Nat→Y10) (list:Nat→(List Int)) (n_:Nat) {res_:Option Y18} (hstep_:∀j_,j_<n_→∀kx_,Q65_B1 N kx kx_ (n2 j_) (code j_) (v91 j_) (v101 j_) (v14 j_) (v15 j_) (out1 j_) (list j_)=kx_ (n2 (j_+1)) (code (j_+1)) (v91 (j_+1)) (v101 (j_+1)) (v14 (j_+1)) (v15 (j_+1)) (out1 (j_+1)) (list (j_+1))) (hend_:∀kx_,Q65_B1 N kx kx_ (n2 n_) (code n_) (v91 n_) (v101 n_) (v14 n_) (v15 n_) (out1 n_) (list n_)=res_) (fu_:Nat) (hm_:n_<fu_):Q65_L1 N fu_ kx (n2 0) (code 0) (v91 0) (v101 0) (v14 0) (v15 0) (out1 0) (list 0)=res_:=by
  exact loop_run (L:=fun fu_ (x_:Int×Int×Int×Int×Int×Int×Y10×(List Int))=>Q65_L1 N fu_ kx x_.1 x_.2.1 x_.2.2.1 x_.2.2.2.1 x_.2.2.2.2.1 x_.2.2.2.2.2.1 x_.2.2.2.2.2.2.1 x_.2.2.2.2.2.2.2) (B:=fun kx_ x_=>Q65_B1 N kx (fun n2 code v91 v101 v14 v15 out1 list=>kx_ (n2,code,v91,v101,v14,v15,out1,list)) x_.1 x_.2.1 x_.2.2.1 x_.2.2.2.1 x_.2.2.2.2.1 x_.2.2.2.2.2.1 x_.2.2.2.2.2.2.1 x_.2.2.2.2.2.2.2) (fun _ _=>rfl) (fun j_=>(n2 j_,code j_,v91 j_,v101 j_,v14 j_,v15 j_,out1 j_,list j_)) n_ (fun j_ hi_ kx_=>hstep_ j_ hi_ _) (fun kx_=>hend_ _) fu_ hm_
def Q65_K2 (N:Nat) (out3:List (List Int)):Option Y18:=
  (slices_SortFunc_int_int__impl_sets_1 N out3).bind fun r=>
  some (r.2,())
def Q65_B2 (N:Nat) (kx:Int→Int→Int→Y10→Option Y18) (n1:Int) (v9:Int) (v10:Int) (out:List (List Int)):Option Y18:=
  bif ilt v10 v9 then
    Q65_L1 N N kx n1 v10 v9 v10 n1 0 out []
  else
    Q65_K2 N out
def Q65_L2 (N fu_:Nat) (n1:Int) (v9:Int) (v10:Int) (out:List (List Int)):Option Y18:=
  iterK fu_ (fun kx (v_:Y17×Y18)=>Q65_B2 N (fun n1 v9 v10 out=>kx ((n1,v9,v10,()),(out,()))) v_.1.1 v_.1.2.1 v_.1.2.2.1 v_.2.1) ((n1,v9,v10,()),(out,()))
theorem Q65_L2_run (N:Nat) (n1:Nat→Int) (v9:Nat→Int) (v10:Nat→Int) (out:Nat→Y10) (n_:Nat) {res_:Option Y18} (hstep_:∀j_,j_<n_→∀kx_,Q65_B2 N kx_ (n1 j_) (v9 j_) (v10 j_) (out j_)=kx_ (n1 (j_+1)) (v9 (j_+1)) (v10 (j_+1)) (out (j_+1))) (hend_:∀kx_,Q65_B2 N kx_ (n1 n_) (v9 n_) (v10 n_) (out n_)=res_) (fu_:Nat) (hm_:n_<fu_):Q65_L2 N fu_ (n1 0) (v9 0) (v10 0) (out 0)=res_:=by
  exact loop_run (L:=fun fu_ (x_:Int×Int×Int×Y10)=>Q65_L2 N fu_ x_.1 x_.2.1 x_.2.2.1 x_.2.2.2) (B:=fun kx_ x_=>Q65_B2 N (fun n1 v9 v10 out=>kx_ (n1,v9,v10,out)) x_.1 x_.2.1 x_.2.2.1 x_.2.2.2) (fun _ _=>rfl) (fun j_=>(n1 j_,v9 j_,v10 j_,out j_)) n_ (fun j_ hi_ kx_=>hstep_ j_ hi_ _) (fun kx_=>hend_ _) fu_ hm_
def Q65 (N:Nat) (n:Int):Option Y18:=
  chk (ile 0 n)<|
  Q65_L2 N N n (ishl .i64 1 n) 0 []
def Q16_K1 (N:Nat) (kx1:Int→(List Int)→Int→(List Int)→Int→Int→Y0→Option Y9) (life5:Int) (periods5:List Int) (sum4:Int) (need1:Int) (least1:Int) (v312:List Int) (v322:Int) (v332:Int) (c5:(List Int)×(List Int)×(List Int)×(List Int)):Option Y9:=
  bif ilt 0 need1 then
    bif ieq least1 1099511627776 then
      some ((0,false),())
    else
      kx1 life5 periods5 (iadd .i64 sum4 (imul .i64 need1 least1)) v312 v322 (iadd .i64 v332 1) c5
  else
    kx1 life5 periods5 sum4 v312 v322 (iadd .i64 v332 1) c5
def Q16_B1 (N:Nat) (kx1:Int→(List Int)→Int→(List Int)→Int→Int→Y0→Option Y9) (kx2:Int→(List Int)→Int→Int→Int→Int→(List Int)→Int→Int→(List Int)→Int→Int→Y0→Option Y9) (life4:Int) (periods4:List Int) (sum3:Int) (t:Int) (need:Int) (least:Int) (v311:List Int) (v321:Int) (v331:Int) (v38:List Int) (v39:Int) (v40:Int) (c4:(List Int)×(List Int)×(List Int)×(List Int)):Option Y9:=
  bif ilt v40 v39 then
    chk (inB v40 v38.length)<|
    (Q68 N (gd v38 v40.toNat 0) (iadd .i64 (isub .i64 t life4) 1) t).bind fun r=>
    bif r.1 then
      (Q21 N c4 (gd v38 v40.toNat 0) t).bind fun r1=>
      kx2 life4 periods4 sum3 t need (imin least r1.1) v311 v321 v331 v38 v39 (iadd .i64 v40 1) c4
    else
      kx2 life4 periods4 sum3 t need least v311 v321 v331 v38 v39 (iadd .i64 v40 1) c4
  else
    Q16_K1 N kx1 life4 periods4 sum3 need least v311 v321 v331 c4
def Q16_L1 (N fu_:Nat) (kx1:Int→(List Int)→Int→(List Int)→Int→Int→Y0→Option Y9) (life4:Int) (periods4:List Int) (sum3:Int) (t:Int) (need:Int) (least:Int) (v311:List Int) (v321:Int) (v331:Int) (v38:List Int) (v39:Int) (v40:Int) (c4:(List Int)×(List Int)×(List Int)×(List Int)):Option Y9:=
  iterK fu_ (fun kx2 (v_:(Int×(List Int)×Int×Int×Int×Int×(List Int)×Int×Int×(List Int)×Int×Int×Unit)×(Y0×Unit))=>Q16_B1 N kx1 (fun life4 periods4 sum3 t need least v311 v321 v331 v38 v39 v40 c4=>kx2 ((life4,periods4,sum3,t,need,least,v311,v321,v331,v38,v39,v40,()),(c4,()))) v_.1.1 v_.1.2.1 v_.1.2.2.1 v_.1.2.2.2.1 v_.1.2.2.2.2.1 v_.1.2.2.2.2.2.1 v_.1.2.2.2.2.2.2.1 v_.1.2.2.2.2.2.2.2.1 v_.1.2.2.2.2.2.2.2.2.1 v_.1.2.2.2.2.2.2.2.2.2.1 v_.1.2.2.2.2.2.2.2.2.2.2.1 v_.1.2.2.2.2.2.2.2.2.2.2.2.1 v_.2.1) ((life4,periods4,sum3,t,need,least,v311,v321,v331,v38,v39,v40,()),(c4,()))
theorem Q16_L1_run (N:Nat) (kx1:Int→(List Int)→Int→(List Int)→Int→Int→Y0→Option Y9) (life4:Nat→Int) (periods4:Nat→(List Int)) (sum3:Nat→Int) (t:Nat→Int) (need:Nat→Int) (least:Nat→Int) (v311:Nat→(List Int)) (v321:Nat→Int) (v331:Nat→Int) (v38:Nat→(List Int)) (v39:Nat→Int) (v40:Nat→Int) (c4:Nat→Y0) (n_:Nat) {res_:Option Y9} (hstep_:∀j_,j_<n_→∀kx_,Q16_B1 N kx1 kx_ (life4 j_) (periods4 j_) (sum3 j_) (t j_) (need j_) (least j_) (v311 j_) (v321 j_) (v331 j_) (v38 j_) (v39 j_) (v40 j_) (c4 j_)=kx_ (life4 (j_+1)) (periods4 (j_+1)) (sum3 (j_+1)) (t (j_+1)) (need (j_+1)) (least (j_+1)) (v311 (j_+1)) (v321 (j_+1)) (v331 (j_+1)) (v38 (j_+1)) (v39 (j_+1)) (v40 (j_+1)) (c4 (j_+1))) (hend_:∀kx_,Q16_B1 N kx1 kx_ (life4 n_) (periods4 n_) (sum3 n_) (t n_) (need n_) (least n_) (v311 n_) (v321 n_) (v331 n_) (v38 n_) (v39 n_) (v40 n_) (c4 n_)=res_) (fu_:Nat) (hm_:n_<fu_):Q16_L1 N fu_ kx1 (life4 0) (periods4 0) (sum3 0) (t 0) (need 0) (least 0) (v311 0) (v321 0) (v331 0) (v38 0) (v39 0) (v40 0) (c4 0)=res_:=by
  exact loop_run (L:=fun fu_ (x_:Int×(List Int)×Int×Int×Int×Int×(List Int)×Int×Int×(List Int)×Int×Int×Y0)=>Q16_L1 N fu_ kx1 x_.1 x_.2.1 x_.2.2.1 x_.2.2.2.1 x_.2.2.2.2.1 x_.2.2.2.2.2.1 x_.2.2.2.2.2.2.1 x_.2.2.2.2.2.2.2.1 x_.2.2.2.2.2.2.2.2.1 x_.2.2.2.2.2.2.2.2.2.1 x_.2.2.2.2.2.2.2.2.2.2.1 x_.2.2.2.2.2.2.2.2.2.2.2.1 x_.2.2.2.2.2.2.2.2.2.2.2.2) (B:=fun kx_ x_=>Q16_B1 N kx1 (fun life4 periods4 sum3 t need least v311 v321 v331 v38 v39 v40 c4=>kx_ (life4,periods4,sum3,t,need,least,v311,v321,v331,v38,v39,v40,c4)) x_.1 x_.2.1 x_.2.2.1 x_.2.2.2.1 x_.2.2.2.2.1 x_.2.2.2.2.2.1 x_.2.2.2.2.2.2.1 x_.2.2.2.2.2.2.2.1 x_.2.2.2.2.2.2.2.2.1 x_.2.2.2.2.2.2.2.2.2.1 x_.2.2.2.2.2.2.2.2.2.2.1 x_.2.2.2.2.2.2.2.2.2.2.2.1 x_.2.2.2.2.2.2.2.2.2.2.2.2) (fun _ _=>rfl) (fun j_=>(life4 j_,periods4 j_,sum3 j_,t j_,need j_,least j_,v311 j_,v321 j_,v331 j_,v38 j_,v39 j_,v40 j_,c4 j_)) n_ (fun j_ hi_ kx_=>hstep_ j_ hi_ _) (fun kx_=>hend_ _) fu_ hm_
def Q16_K2 (N:Nat) (sum5:Int):Option Y9:=
  some ((sum5,true),())
def Q16_B2 (N:Nat) (kx1:Int→(List Int)→Int→(List Int)→Int→Int→Y0→Option Y9) (life3:Int) (periods3:List Int) (sum2:Int) (v31:List Int) (v32:Int) (v33:Int) (c3:(List Int)×(List Int)×(List Int)×(List Int)):Option Y9:=
  bif ilt v33 v32 then
    chk (inB v33 v31.length)<|
    Q16_L1 N N kx1 life3 periods3 sum2 v33 (gd v31 v33.toNat 0) 1099511627776 v31 v32 v33 periods3 (len periods3) 0 c3
  else
    Q16_K2 N sum2
def Q16_L2 (N fu_:Nat) (life3:Int) (periods3:List Int) (sum2:Int) (v31:List Int) (v32:Int) (v33:Int) (c3:(List Int)×(List Int)×(List Int)×(List Int)):Option Y9:=
  iterK fu_ (fun kx1 (v_:(Int×(List Int)×Int×(List Int)×Int×Int×Unit)×(Y0×Unit))=>Q16_B2 N (fun life3 periods3 sum2 v31 v32 v33 c3=>kx1 ((life3,periods3,sum2,v31,v32,v33,()),(c3,()))) v_.1.1 v_.1.2.1 v_.1.2.2.1 v_.1.2.2.2.1 v_.1.2.2.2.2.1 v_.1.2.2.2.2.2.1 v_.2.1) ((life3,periods3,sum2,v31,v32,v33,()),(c3,()))
theorem Q16_L2_run (N:Nat) (life3:Nat→Int) (periods3:Nat→(List Int)) (sum2:Nat→Int) (v31:Nat→(List Int)) (v32:Nat→Int) (v33:Nat→Int) (c3:Nat→Y0) (n_:Nat) {res_:Option Y9} (hstep_:∀j_,j_<n_→∀kx_,Q16_B2 N kx_ (life3 j_) (periods3 j_) (sum2 j_) (v31 j_) (v32 j_) (v33 j_) (c3 j_)=kx_ (life3 (j_+1)) (periods3 (j_+1)) (sum2 (j_+1)) (v31 (j_+1)) (v32 (j_+1)) (v33 (j_+1)) (c3 (j_+1))) (hend_:∀kx_,Q16_B2 N kx_ (life3 n_) (periods3 n_) (sum2 n_) (v31 n_) (v32 n_) (v33 n_) (c3 n_)=res_) (fu_:Nat) (hm_:n_<fu_):Q16_L2 N fu_ (life3 0) (periods3 0) (sum2 0) (v31 0) (v32 0) (v33 0) (c3 0)=res_:=by
  exact loop_run (L:=fun fu_ (x_:Int×(List Int)×Int×(List Int)×Int×Int×Y0)=>Q16_L2 N fu_ x_.1 x_.2.1 x_.2.2.1 x_.2.2.2.1 x_.2.2.2.2.1 x_.2.2.2.2.2.1 x_.2.2.2.2.2.2) (B:=fun kx_ x_=>Q16_B2 N (fun life3 periods3 sum2 v31 v32 v33 c3=>kx_ (life3,periods3,sum2,v31,v32,v33,c3)) x_.1 x_.2.1 x_.2.2.1 x_.2.2.2.1 x_.2.2.2.2.1 x_.2.2.2.2.2.1 x_.2.2.2.2.2.2) (fun _ _=>rfl) (fun j_=>(life3 j_,periods3 j_,sum2 j_,v31 j_,v32 j_,v33 j_,c3 j_)) n_ (fun j_ hi_ kx_=>hstep_ j_ hi_ _) (fun kx_=>hend_ _) fu_ hm_
def Q16_K3 (N:Nat) (life2:Int) (periods2:List Int) (sum1:Int) (c2:(List Int)×(List Int)×(List Int)×(List Int)):Option Y9:=
  Q16_L2 N N life2 periods2 sum1 c2.1 (len c2.1) 0 c2
def Q16_B3 (N:Nat) (kx:Int→(List Int)→Int→(List Int)→Int→Int→Y0→Option Y9) (life1:Int) (periods1:List Int) (sum:Int) (v16:List Int) (v17:Int) (v18:Int) (c1:(List Int)×(List Int)×(List Int)×(List Int)):Option Y9:=
  bif ilt v18 v17 then
    chk (inB v18 v16.length)<|
    chk (inB (gd v16 v18.toNat 0) c1.2.1.length)<|
    kx life1 periods1 (iadd .i64 sum (gd c1.2.1 (gd v16 v18.toNat 0).toNat 0)) v16 v17 (iadd .i64 v18 1) c1
  else
    Q16_K3 N life1 periods1 sum c1
def Q16_L3 (N fu_:Nat) (life1:Int) (periods1:List Int) (sum:Int) (v16:List Int) (v17:Int) (v18:Int) (c1:(List Int)×(List Int)×(List Int)×(List Int)):Option Y9:=
  iterK fu_ (fun kx (v_:(Int×(List Int)×Int×(List Int)×Int×Int×Unit)×(Y0×Unit))=>Q16_B3 N (fun life1 periods1 sum v16 v17 v18 c1=>kx ((life1,periods1,sum,v16,v17,v18,()),(c1,()))) v_.1.1 v_.1.2.1 v_.1.2.2.1 v_.1.2.2.2.1 v_.1.2.2.2.2.1 v_.1.2.2.2.2.2.1 v_.2.1) ((life1,periods1,sum,v16,v17,v18,()),(c1,()))
theorem Q16_L3_run (N:Nat) (life1:Nat→Int) (periods1:Nat→(List Int)) (sum:Nat→Int) (v16:Nat→(List Int)) (v17:Nat→Int) (v18:Nat→Int) (c1:Nat→Y0) (n_:Nat) {res_:Option Y9} (hstep_:∀j_,j_<n_→∀kx_,Q16_B3 N kx_ (life1 j_) (periods1 j_) (sum j_) (v16 j_) (v17 j_) (v18 j_) (c1 j_)=kx_ (life1 (j_+1)) (periods1 (j_+1)) (sum (j_+1)) (v16 (j_+1)) (v17 (j_+1)) (v18 (j_+1)) (c1 (j_+1))) (hend_:∀kx_,Q16_B3 N kx_ (life1 n_) (periods1 n_) (sum n_) (v16 n_) (v17 n_) (v18 n_) (c1 n_)=res_) (fu_:Nat) (hm_:n_<fu_):Q16_L3 N fu_ (life1 0) (periods1 0) (sum 0) (v16 0) (v17 0) (v18 0) (c1 0)=res_:=by
  exact loop_run (L:=fun fu_ (x_:Int×(List Int)×Int×(List Int)×Int×Int×Y0)=>Q16_L3 N fu_ x_.1 x_.2.1 x_.2.2.1 x_.2.2.2.1 x_.2.2.2.2.1 x_.2.2.2.2.2.1 x_.2.2.2.2.2.2) (B:=fun kx_ x_=>Q16_B3 N (fun life1 periods1 sum v16 v17 v18 c1=>kx_ (life1,periods1,sum,v16,v17,v18,c1)) x_.1 x_.2.1 x_.2.2.1 x_.2.2.2.1 x_.2.2.2.2.1 x_.2.2.2.2.2.1 x_.2.2.2.2.2.2) (fun _ _=>rfl) (fun j_=>(life1 j_,periods1 j_,sum j_,v16 j_,v17 j_,v18 j_,c1 j_)) n_ (fun j_ hi_ kx_=>hstep_ j_ hi_ _) (fun kx_=>hend_ _) fu_ hm_
def Q16 (N:Nat) (c:(List Int)×(List Int)×(List Int)×(List Int)) (life:Int) (periods:List Int):Option Y9:=
  Q16_L3 N N life periods 0 periods (len periods) 0 c
def Q10_K1 (N:Nat) (kx:Int→(List Int)→Int→Int→Int→Y0→Y10→Option Y7) (life2:Int) (best1:List Int) (least1:Int) (v171:Int) (v181:Int) (c2:(List Int)×(List Int)×(List Int)×(List Int)) (v161:List (List Int)):Option Y7:=
  kx life2 best1 least1 v171 (iadd .i64 v181 1) c2 v161
def Q10_K2 (N:Nat) (best2:List Int) (least2:Int):Option Y7:=
  some ((best2,least2),())
def Q10_B1 (N:Nat) (kx:Int→(List Int)→Int→Int→Int→Y0→Y10→Option Y7) (life1:Int) (best:List Int) (least:Int) (v17:Int) (v18:Int) (c1:(List Int)×(List Int)×(List Int)×(List Int)) (v16:List (List Int)):Option Y7:=
  bif ilt v18 v17 then
    chk (inB v18 v16.length)<|
    (Q16 N c1 life1 (gd v16 v18.toNat [])).bind fun r1=>
    bif r1.1.2 then
      bif ilt r1.1.1 least then
        Q10_K1 N kx life1 (gd v16 v18.toNat []) r1.1.1 v17 v18 c1 v16
      else
        Q10_K1 N kx life1 best least v17 v18 c1 v16
    else
      Q10_K1 N kx life1 best least v17 v18 c1 v16
  else
    Q10_K2 N best least
def Q10_L1 (N fu_:Nat) (life1:Int) (best:List Int) (least:Int) (v17:Int) (v18:Int) (c1:(List Int)×(List Int)×(List Int)×(List Int)) (v16:List (List Int)):Option Y7:=
  iterK fu_ (fun kx (v_:(Int×(List Int)×Int×Int×Int×Unit)×(Y0×Y10×Unit))=>Q10_B1 N (fun life1 best least v17 v18 c1 v16=>kx ((life1,best,least,v17,v18,()),(c1,v16,()))) v_.1.1 v_.1.2.1 v_.1.2.2.1 v_.1.2.2.2.1 v_.1.2.2.2.2.1 v_.2.1 v_.2.2.1) ((life1,best,least,v17,v18,()),(c1,v16,()))
theorem Q10_L1_run (N:Nat) (life1:Nat→Int) (best:Nat→(List Int)) (least:Nat→Int) (v17:Nat→Int) (v18:Nat→Int) (c1:Nat→Y0) (v16:Nat→Y10) (n_:Nat) {res_:Option Y7} (hstep_:∀j_,j_<n_→∀kx_,Q10_B1 N kx_ (life1 j_) (best j_) (least j_) (v17 j_) (v18 j_) (c1 j_) (v16 j_)=kx_ (life1 (j_+1)) (best (j_+1)) (least (j_+1)) (v17 (j_+1)) (v18 (j_+1)) (c1 (j_+1)) (v16 (j_+1))) (hend_:∀kx_,Q10_B1 N kx_ (life1 n_) (best n_) (least n_) (v17 n_) (v18 n_) (c1 n_) (v16 n_)=res_) (fu_:Nat) (hm_:n_<fu_):Q10_L1 N fu_ (life1 0) (best 0) (least 0) (v17 0) (v18 0) (c1 0) (v16 0)=res_:=by
  exact loop_run (L:=fun fu_ (x_:Int×(List Int)×Int×Int×Int×Y0×Y10)=>Q10_L1 N fu_ x_.1 x_.2.1 x_.2.2.1 x_.2.2.2.1 x_.2.2.2.2.1 x_.2.2.2.2.2.1 x_.2.2.2.2.2.2) (B:=fun kx_ x_=>Q10_B1 N (fun life1 best least v17 v18 c1 v16=>kx_ (life1,best,least,v17,v18,c1,v16)) x_.1 x_.2.1 x_.2.2.1 x_.2.2.2.1 x_.2.2.2.2.1 x_.2.2.2.2.2.1 x_.2.2.2.2.2.2) (fun _ _=>rfl) (fun j_=>(life1 j_,best j_,least j_,v17 j_,v18 j_,c1 j_,v16 j_)) n_ (fun j_ hi_ kx_=>hstep_ j_ hi_ _) (fun kx_=>hend_ _) fu_ hm_
def Q10 (N:Nat) (c:(List Int)×(List Int)×(List Int)×(List Int)) (life:Int):Option Y7:=
  (Q65 N (len c.1)).bind fun r=>
  Q10_L1 N N life [] 1099511627776 (len r.1) 0 c r.1
def Q6 (N:Nat) (c:(List Int)×(List Int)×(List Int)×(List Int)) (life:Int):Option (((List Int)×Int×Bool)×Unit):=
  (Q31 N c).bind fun r=>
  bif !r.1 then
    some (([],(0,false)),())
  else
    (Q60 N life).bind fun r1=>
    bif !r1.1 then
      some (([],(0,false)),())
    else
      (Q10 N c life).bind fun r2=>
      some ((r2.1.1,(r2.1.2,true)),())
def Q37_K1 (N:Nat) (kx:Int→Int→Int→Y2→Option Y5) (to2:Int) (sum1:Int) (i1:Int) (l2:Y0×(List Int)×Int):Option Y5:=
  chk (inB i1 l2.1.2.2.1.length)<|
  chk (inB i1 l2.2.1.length)<|
  chk (inB i1 l2.1.2.2.2.length)<|
  (Q41 N l2 (iadd .i64 i1 1)).bind fun r=>
  kx to2 (iadd .i64 sum1 (iadd .i64 (imul .i64 (gd l2.1.2.2.1 i1.toNat 0) (gd l2.2.1 i1.toNat 0)) (imul .i64 (gd l2.1.2.2.2 i1.toNat 0) r.1))) (iadd .i64 i1 1) l2
def Q37_K2 (N:Nat) (sum2:Int):Option Y5:=
  some (sum2,())
def Q37_B1 (N:Nat) (kx:Int→Int→Int→Y2→Option Y5) (to1:Int) (sum:Int) (i:Int) (l1:Y0×(List Int)×Int):Option Y5:=
  bif ilt i to1 then
    chk (inB i l1.2.1.length)<|
    bif ilt 0 (gd l1.2.1 i.toNat 0) then
      chk (inB i l1.1.2.1.length)<|
      Q37_K1 N kx to1 (iadd .i64 sum (gd l1.1.2.1 i.toNat 0)) i l1
    else
      Q37_K1 N kx to1 sum i l1
  else
    Q37_K2 N sum
def Q37_L1 (N fu_:Nat) (to1:Int) (sum:Int) (i:Int) (l1:Y0×(List Int)×Int):Option Y5:=
  iterK fu_ (fun kx (v_:Y17×(Y2×Unit))=>Q37_B1 N (fun to1 sum i l1=>kx ((to1,sum,i,()),(l1,()))) v_.1.1 v_.1.2.1 v_.1.2.2.1 v_.2.1) ((to1,sum,i,()),(l1,()))
theorem Q37_L1_run (N:Nat) (to1:Nat→Int) (sum:Nat→Int) (i:Nat→Int) (l1:Nat→Y2) (n_:Nat) {res_:Option Y5} (hstep_:∀j_,j_<n_→∀kx_,Q37_B1 N kx_ (to1 j_) (sum j_) (i j_) (l1 j_)=kx_ (to1 (j_+1)) (sum (j_+1)) (i (j_+1)) (l1 (j_+1))) (hend_:∀kx_,Q37_B1 N kx_ (to1 n_) (sum n_) (i n_) (l1 n_)=res_) (fu_:Nat) (hm_:n_<fu_):Q37_L1 N fu_ (to1 0) (sum 0) (i 0) (l1 0)=res_:=by
  exact loop_run (L:=fun fu_ (x_:Int×Int×Int×Y2)=>Q37_L1 N fu_ x_.1 x_.2.1 x_.2.2.1 x_.2.2.2) (B:=fun kx_ x_=>Q37_B1 N (fun to1 sum i l1=>kx_ (to1,sum,i,l1)) x_.1 x_.2.1 x_.2.2.1 x_.2.2.2) (fun _ _=>rfl) (fun j_=>(to1 j_,sum j_,i j_,l1 j_)) n_ (fun j_ hi_ kx_=>hstep_ j_ hi_ _) (fun kx_=>hend_ _) fu_ hm_
def Q37 (N:Nat) (l:Y0×(List Int)×Int) (fromx:Int) (to:Int):Option Y5:=
  Q37_L1 N N to 0 fromx l
def Q23 (N:Nat) (l:Y0×(List Int)×Int):Option Y9:=
  (Q32 N l).bind fun r=>
  bif !r.1 then
    some ((0,false),())
  else
    (Q40 N l).bind fun r1=>
    bif ilt 0 (len r1.1) then
      some ((0,false),())
    else
      (Q37 N l l.2.2 (len l.2.1)).bind fun r2=>
      some ((r2.1,true),())
def Q46 (N:Nat) (c:(List Int)×(List Int)×(List Int)×(List Int)) (rule:Int):Option Y4:=
  (Q31 N c).bind fun r=>
  bif !r.1 then
    some (([],false),())
  else
    (Q68 N rule 1 3).bind fun r1=>
    bif !r1.1 then
      some (([],false),())
    else
      (Q11 N c rule).bind fun r2=>
      some ((r2.1,true),())
def Q24 (N:Nat) (l:Y0×(List Int)×Int):Option Y9:=
  (Q32 N l).bind fun r=>
  bif !r.1 then
    some ((0,false),())
  else
    (Q37 N l 0 l.2.2).bind fun r1=>
    some ((r1.1,true),())
def Q42 (N:Nat) (l:Y0×(List Int)×Int):Option Y4:=
  (Q32 N l).bind fun r=>
  bif !r.1 then
    some (([],false),())
  else
    (Q38 N l).bind fun r1=>
    some ((r1.1,true),())
def Q57_K1 (N:Nat) (between2:ByteArray) (words1:List ByteArray):Option Y12:=
  (strings_Join N words1 between2).bind fun r1=>
  some (r1.1,())
def Q57_B1 (N:Nat) (kx:ByteArray→(List Int)→Int→Int→Y11→Option Y12) (between1:ByteArray) (v9:List Int) (v10:Int) (v11:Int) (words:List ByteArray):Option Y12:=
  bif ilt v11 v10 then
    chk (inB v11 v9.length)<|
    (strconv_Itoa N (gd v9 v11.toNat 0)).bind fun r=>
    chk (fitB (words.length+1) 16)<|
    kx between1 v9 v10 (iadd .i64 v11 1) (words++[r.1])
  else
    Q57_K1 N between1 words
def Q57_L1 (N fu_:Nat) (between1:ByteArray) (v9:List Int) (v10:Int) (v11:Int) (words:List ByteArray):Option Y12:=
  iterK fu_ (fun kx (v_:(ByteArray×(List Int)×Int×Int×Unit)×(Y11×Unit))=>Q57_B1 N (fun between1 v9 v10 v11 words=>kx ((between1,v9,v10,v11,()),(words,()))) v_.1.1 v_.1.2.1 v_.1.2.2.1 v_.1.2.2.2.1 v_.2.1) ((between1,v9,v10,v11,()),(words,()))
def Q57 (N:Nat) (list:List Int) (between:ByteArray):Option Y12:=
  Q57_L1 N N between list (len list) 0 []
def Q54_K1 (N:Nat) (words1:List ByteArray):Option Y12:=
  bif ieq (len words1) 0 then
    some ((⟨#[110,111,110,101]⟩:ByteArray),())
  else
    (strings_Join N words1 (⟨#[32]⟩:ByteArray)).bind fun r1=>
    some (r1.1,())
def Q54_B1 (N:Nat) (kx:(List Int)→Int→Int→Y0→Y11→Option Y12) (v8:List Int) (v9:Int) (v10:Int) (c1:(List Int)×(List Int)×(List Int)×(List Int)) (words:List ByteArray):Option Y12:=
  bif ilt v10 v9 then
    chk (inB v10 v8.length)<|
    chk (inB v10 c1.2.1.length)<|
    chk (inB v10 c1.2.2.1.length)<|
    chk (inB v10 c1.2.2.2.length)<|
    (Q57 N [gd v8 v10.toNat 0,gd c1.2.1 v10.toNat 0,gd c1.2.2.1 v10.toNat 0,gd c1.2.2.2 v10.toNat 0] (⟨#[47]⟩:ByteArray)).bind fun r=>
    chk (fitB (words.length+1) 16)<|
    kx v8 v9 (iadd .i64 v10 1) c1 (words++[r.1])
  else
    Q54_K1 N words
def Q54_L1 (N fu_:Nat) (v8:List Int) (v9:Int) (v10:Int) (c1:(List Int)×(List Int)×(List Int)×(List Int)) (words:List ByteArray):Option Y12:=
  iterK fu_ (fun kx (v_:Y22×(Y0×Y11×Unit))=>Q54_B1 N (fun v8 v9 v10 c1 words=>kx ((v8,v9,v10,()),(c1,words,()))) v_.1.1 v_.1.2.1 v_.1.2.2.1 v_.2.1 v_.2.2.1) ((v8,v9,v10,()),(c1,words,()))
def Q54 (N:Nat) (c:(List Int)×(List Int)×(List Int)×(List Int)):Option Y12:=
  Q54_L1 N N c.1 (len c.1) 0 c []
def Q7 (N:Nat) (c:(List Int)×(List Int)×(List Int)×(List Int)):Option Y8:=
  (Q31 N c).bind fun r=>
  bif !r.1 then
    some (((⟨#[]⟩:ByteArray),false),())
  else
    (Q54 N c).bind fun r1=>
    some ((r1.1,true),())
def Q49_K1 (N:Nat) (out1:List Int):Option Y4:=
  some ((out1,true),())
def Q49_B1 (N:Nat) (kx:Int→Int→(List Int)→(List Int)→(List Int)→Option Y4) (v18:Int) (v19:Int) (out:List Int) (backward:List Int) (v17:List Int):Option Y4:=
  bif ilt v19 v18 then
    chk (inB v19 v17.length)<|
    chk (inB v19 backward.length)<|
    chk (inB 0 backward.length)<|
    bif ieq (iadd .i64 (gd v17 v19.toNat 0) (gd backward v19.toNat 0)) (gd backward 0 0) then
      chk (fitB (out.length+1) 8)<|
      kx v18 (iadd .i64 v19 1) (out++[v19]) backward v17
    else
      kx v18 (iadd .i64 v19 1) out backward v17
  else
    Q49_K1 N out
def Q49_L1 (N fu_:Nat) (v18:Int) (v19:Int) (out:List Int) (backward:List Int) (v17:List Int):Option Y4:=
  iterK fu_ (fun kx (v_:Y19×((List Int)×(List Int)×(List Int)×Unit))=>Q49_B1 N (fun v18 v19 out backward v17=>kx ((v18,v19,()),(out,backward,v17,()))) v_.1.1 v_.1.2.1 v_.2.1 v_.2.2.1 v_.2.2.2.1) ((v18,v19,()),(out,backward,v17,()))
def Q49 (N:Nat) (c:(List Int)×(List Int)×(List Int)×(List Int)):Option Y4:=
  (Q31 N c).bind fun r=>
  bif !r.1 then
    some (([],false),())
  else
    (Q15 N c).bind fun r1=>
    (Q8 N c).bind fun r2=>
    Q49_L1 N N (len r1.1) 0 [] r2.1 r1.1
def Q18_K1 (N:Nat) (kx:Int→Y0→(List Int)→(List Int)→Option Y1) (j2:Int) (i1:Int) (c3:(List Int)×(List Int)×(List Int)×(List Int)) (out2:List Int) (forward2:List Int):Option Y1:=
  chk (fitB (out2.length+1) 8)<|
  kx (iadd .i64 j2 1) c3 (out2++[i1]) forward2
def Q18_B1 (N:Nat) (kx:Int→Y0→(List Int)→(List Int)→Option Y1) (kx1:Int→Int→Y0→(List Int)→(List Int)→Option Y1) (j1:Int) (i:Int) (c2:(List Int)×(List Int)×(List Int)×(List Int)) (out1:List Int) (forward1:List Int):Option Y1:=
  chk (inB i forward1.length)<|
  (Q22 N c2 i j1).bind fun r1=>
  chk (inB j1 forward1.length)<|
  bif ine (iadd .i64 (gd forward1 i.toNat 0) r1.1) (gd forward1 j1.toNat 0) then
    kx1 j1 (isub .i64 i 1) c2 out1 forward1
  else
    Q18_K1 N kx j1 i c2 out1 forward1
def Q18_L1 (N fu_:Nat) (kx:Int→Y0→(List Int)→(List Int)→Option Y1) (j1:Int) (i:Int) (c2:(List Int)×(List Int)×(List Int)×(List Int)) (out1:List Int) (forward1:List Int):Option Y1:=
  iterK fu_ (fun kx1 (v_:Y19×Y23)=>Q18_B1 N kx (fun j1 i c2 out1 forward1=>kx1 ((j1,i,()),(c2,out1,forward1,()))) v_.1.1 v_.1.2.1 v_.2.1 v_.2.2.1 v_.2.2.2.1) ((j1,i,()),(c2,out1,forward1,()))
def Q18_K2 (N:Nat) (out3:List Int):Option Y1:=
  some (out3,())
def Q18_B2 (N:Nat) (kx:Int→Y0→(List Int)→(List Int)→Option Y1) (j:Int) (c1:(List Int)×(List Int)×(List Int)×(List Int)) (out:List Int) (forward:List Int):Option Y1:=
  bif ilt j (len forward) then
    Q18_L1 N N kx j (isub .i64 j 1) c1 out forward
  else
    Q18_K2 N out
def Q18_L2 (N fu_:Nat) (j:Int) (c1:(List Int)×(List Int)×(List Int)×(List Int)) (out:List Int) (forward:List Int):Option Y1:=
  iterK fu_ (fun kx (v_:Y5×Y23)=>Q18_B2 N (fun j c1 out forward=>kx ((j,()),(c1,out,forward,()))) v_.1.1 v_.2.1 v_.2.2.1 v_.2.2.2.1) ((j,()),(c1,out,forward,()))
def Q18 (N:Nat) (c:(List Int)×(List Int)×(List Int)×(List Int)):Option Y1:=
  (Q15 N c).bind fun r=>
  Q18_L2 N N 1 c [] r.1
def Q30_K1 (N:Nat) (out1:List Int):Option Y4:=
  some ((out1,true),())
def Q30_B1 (N:Nat) (kx:Int→Int→Y0→(List Int)→(List Int)→Option Y4) (v13:Int) (v14:Int) (c1:(List Int)×(List Int)×(List Int)×(List Int)) (out:List Int) (v12:List Int):Option Y4:=
  bif ilt v14 v13 then
    chk (inB v14 v12.length)<|
    bif ieq (gd v12 v14.toNat 0) v14 then
      chk (inB v14 c1.1.length)<|
      bif ilt 0 (gd c1.1 v14.toNat 0) then
        chk (fitB (out.length+1) 8)<|
        kx v13 (iadd .i64 v14 1) c1 (out++[iadd .i64 v14 1]) v12
      else
        kx v13 (iadd .i64 v14 1) c1 out v12
    else
      kx v13 (iadd .i64 v14 1) c1 out v12
  else
    Q30_K1 N out
def Q30_L1 (N fu_:Nat) (v13:Int) (v14:Int) (c1:(List Int)×(List Int)×(List Int)×(List Int)) (out:List Int) (v12:List Int):Option Y4:=
  iterK fu_ (fun kx (v_:Y19×Y23)=>Q30_B1 N (fun v13 v14 c1 out v12=>kx ((v13,v14,()),(c1,out,v12,()))) v_.1.1 v_.1.2.1 v_.2.1 v_.2.2.1 v_.2.2.2.1) ((v13,v14,()),(c1,out,v12,()))
def Q30 (N:Nat) (c:(List Int)×(List Int)×(List Int)×(List Int)):Option Y4:=
  (Q31 N c).bind fun r=>
  bif !r.1 then
    some (([],false),())
  else
    (Q18 N c).bind fun r1=>
    Q30_L1 N N (len r1.1) 0 c [] r1.1
def Q53_K1 (N:Nat) (word1:ByteArray) (numbers1:List Int) (l1:Y0×(List Int)×Int):Option Y8:=
  bif ilt 0 (len numbers1) then
    some (((⟨#[]⟩:ByteArray),false),())
  else
    bif Go.Rx.seq word1 (⟨#[110,111,119]⟩:ByteArray) then
      (Q63 N l1.2.2 true).bind fun r6=>
      some ((r6.1.1,r6.1.2),())
    else
      bif Go.Rx.seq word1 (⟨#[115,116,111,99,107]⟩:ByteArray) then
        (Q48 N l1).bind fun r7=>
        (Q63 N r7.1.1 r7.1.2).bind fun r8=>
        some ((r8.1.1,r8.1.2),())
      else
        bif Go.Rx.seq word1 (⟨#[99,111,115,116]⟩:ByteArray) then
          (Q24 N l1).bind fun r9=>
          (Q63 N r9.1.1 r9.1.2).bind fun r10=>
          some ((r10.1.1,r10.1.2),())
        else
          bif Go.Rx.seq word1 (⟨#[97,104,101,97,100]⟩:ByteArray) then
            (Q23 N l1).bind fun r11=>
            (Q63 N r11.1.1 r11.1.2).bind fun r12=>
            some ((r12.1.1,r12.1.2),())
          else
            bif Go.Rx.seq word1 (⟨#[115,104,111,114,116]⟩:ByteArray) then
              (Q47 N l1).bind fun r13=>
              (Q62 N r13.1.1 r13.1.2).bind fun r14=>
              some ((r14.1.1,r14.1.2),())
            else
              bif Go.Rx.seq word1 (⟨#[108,101,102,116]⟩:ByteArray) then
                (Q42 N l1).bind fun r15=>
                (Q62 N r15.1.1 r15.1.2).bind fun r16=>
                some ((r16.1.1,r16.1.2),())
              else
                bif Go.Rx.seq word1 (⟨#[112,108,97,110]⟩:ByteArray) then
                  (Q62 N l1.2.1 true).bind fun r17=>
                  some ((r17.1.1,r17.1.2),())
                else
                  bif Go.Rx.seq word1 (⟨#[99,97,115,101]⟩:ByteArray) then
                    (Q7 N l1.1).bind fun r18=>
                    some ((r18.1.1,r18.1.2),())
                  else
                    bif Go.Rx.seq word1 (⟨#[98,101,115,116]⟩:ByteArray) then
                      (Q5 N l1.1).bind fun r19=>
                      (Q63 N r19.1.1 r19.1.2).bind fun r20=>
                      some ((r20.1.1,r20.1.2),())
                    else
                      bif Go.Rx.seq word1 (⟨#[116,97,98,108,101]⟩:ByteArray) then
                        (Q29 N l1.1).bind fun r21=>
                        (Q62 N r21.1.1 r21.1.2).bind fun r22=>
                        some ((r22.1.1,r22.1.2),())
                      else
                        bif Go.Rx.seq word1 (⟨#[116,117,114,110,115]⟩:ByteArray) then
                          (Q49 N l1.1).bind fun r23=>
                          (Q62 N r23.1.1 r23.1.2).bind fun r24=>
                          some ((r24.1.1,r24.1.2),())
                        else
                          bif Go.Rx.seq word1 (⟨#[104,111,114,105,122,111,110,115]⟩:ByteArray) then
                            (Q30 N l1.1).bind fun r25=>
                            (Q62 N r25.1.1 r25.1.2).bind fun r26=>
                            some ((r26.1.1,r26.1.2),())
                          else
                            bif Go.Rx.seq word1 (⟨#[112,114,105,99,101,115]⟩:ByteArray) then
                              (Q27 N l1.1).bind fun r27=>
                              (Q62 N r27.1.1 r27.1.2).bind fun r28=>
                              some ((r28.1.1,r28.1.2),())
                            else
                              some (((⟨#[]⟩:ByteArray),false),())
def Q53 (N:Nat) (l:Y0×(List Int)×Int) (word:ByteArray) (numbers:List Int):Option Y8:=
  bif ieq (len numbers) 1 then
    bif Go.Rx.seq word (⟨#[114,117,108,101]⟩:ByteArray) then
      chk (inB 0 numbers.length)<|
      (Q46 N l.1 (gd numbers 0 0)).bind fun r=>
      (Q62 N r.1.1 r.1.2).bind fun r1=>
      some ((r1.1.1,r1.1.2),())
    else
      bif Go.Rx.seq word (⟨#[103,97,112]⟩:ByteArray) then
        chk (inB 0 numbers.length)<|
        (Q45 N l.1 (gd numbers 0 0)).bind fun r2=>
        (Q63 N r2.1.1 r2.1.2).bind fun r3=>
        some ((r3.1.1,r3.1.2),())
      else
        bif Go.Rx.seq word (⟨#[102,114,101,115,104]⟩:ByteArray) then
          chk (inB 0 numbers.length)<|
          (Q6 N l.1 (gd numbers 0 0)).bind fun r4=>
          (Q63 N r4.1.2.1 r4.1.2.2).bind fun r5=>
          some ((r5.1.1,r5.1.2),())
        else
          Q53_K1 N word numbers l
  else
    Q53_K1 N word numbers l
def Q58_K1 (N:Nat) (words1:List ByteArray) (l2:Y0×(List Int)×Int) (v41:Y0×(List Int)×Int) (numbers1:List Int):Option Y21:=
  chk (inB 0 words1.length)<|
  (impl_actOf N (gd words1 0 (⟨#[]⟩:ByteArray)) numbers1).bind fun r2=>
  bif r2.1.2 then
    (Q2 N l2 r2.1.1).bind fun r3=>
    bif r3.1.2 then
      (Q51 N r3.1.1 r2.1.1.1).bind fun r4=>
      bif r4.1.2 then
        some ((r3.1.1,r4.1.1),())
      else
        some ((l2,(⟨#[63]⟩:ByteArray)),())
    else
      some ((l2,(⟨#[63]⟩:ByteArray)),())
  else
    chk (inB 0 words1.length)<|
    (Q53 N l2 (gd words1 0 (⟨#[]⟩:ByteArray)) numbers1).bind fun r5=>
    bif !r5.1.2 then
      some ((l2,(⟨#[63]⟩:ByteArray)),())
    else
      some ((l2,r5.1.1),())
def Q58_B1 (N:Nat) (kx:Y11→Y11→Int→Int→Y2→Y2→(List Int)→Option Y21) (words:List ByteArray) (v24:List ByteArray) (v25:Int) (v26:Int) (l1:Y0×(List Int)×Int) (v4:Y0×(List Int)×Int) (numbers:List Int):Option Y21:=
  bif ilt v26 v25 then
    chk (inB v26 v24.length)<|
    (Q44 N (gd v24 v26.toNat (⟨#[]⟩:ByteArray))).bind fun r1=>
    bif !r1.1.2 then
      some ((l1,(⟨#[63]⟩:ByteArray)),())
    else
      chk (fitB (numbers.length+1) 8)<|
      kx words v24 v25 (iadd .i64 v26 1) l1 v4 (numbers++[r1.1.1])
  else
    Q58_K1 N words l1 v4 numbers
def Q58_L1 (N fu_:Nat) (words:List ByteArray) (v24:List ByteArray) (v25:Int) (v26:Int) (l1:Y0×(List Int)×Int) (v4:Y0×(List Int)×Int) (numbers:List Int):Option Y21:=
  iterK fu_ (fun kx (v_:(Y11×Y11×Int×Int×Unit)×(Y2×Y2×(List Int)×Unit))=>Q58_B1 N (fun words v24 v25 v26 l1 v4 numbers=>kx ((words,v24,v25,v26,()),(l1,v4,numbers,()))) v_.1.1 v_.1.2.1 v_.1.2.2.1 v_.1.2.2.2.1 v_.2.1 v_.2.2.1 v_.2.2.2.1) ((words,v24,v25,v26,()),(l1,v4,numbers,()))
theorem Q58_L1_run (N:Nat) (words:Nat→Y11) (v24:Nat→Y11) (v25:Nat→Int) (v26:Nat→Int) (l1:Nat→Y2) (v4:Nat→Y2) (numbers:Nat→(List Int)) (n_:Nat) {res_:Option Y21} (hstep_:∀j_,j_<n_→∀kx_,Q58_B1 N kx_ (words j_) (v24 j_) (v25 j_) (v26 j_) (l1 j_) (v4 j_) (numbers j_)=kx_ (words (j_+1)) (v24 (j_+1)) (v25 (j_+1)) (v26 (j_+1)) (l1 (j_+1)) (v4 (j_+1)) (numbers (j_+1))) (hend_:∀kx_,Q58_B1 N kx_ (words n_) (v24 n_) (v25 n_) (v26 n_) (l1 n_) (v4 n_) (numbers n_)=res_) (fu_:Nat) (hm_:n_<fu_):Q58_L1 N fu_ (words 0) (v24 0) (v25 0) (v26 0) (l1 0) (v4 0) (numbers 0)=res_:=by
  exact loop_run (L:=fun fu_ (x_:Y11×Y11×Int×Int×Y2×Y2×(List Int))=>Q58_L1 N fu_ x_.1 x_.2.1 x_.2.2.1 x_.2.2.2.1 x_.2.2.2.2.1 x_.2.2.2.2.2.1 x_.2.2.2.2.2.2) (B:=fun kx_ x_=>Q58_B1 N (fun words v24 v25 v26 l1 v4 numbers=>kx_ (words,v24,v25,v26,l1,v4,numbers)) x_.1 x_.2.1 x_.2.2.1 x_.2.2.2.1 x_.2.2.2.2.1 x_.2.2.2.2.2.1 x_.2.2.2.2.2.2) (fun _ _=>rfl) (fun j_=>(words j_,v24 j_,v25 j_,v26 j_,l1 j_,v4 j_,numbers j_)) n_ (fun j_ hi_ kx_=>hstep_ j_ hi_ _) (fun kx_=>hend_ _) fu_ hm_
def Q58 (N:Nat) (l:Y0×(List Int)×Int) (line:ByteArray):Option Y21:=
  (strings_Split N line (⟨#[32]⟩:ByteArray)).bind fun r=>
  chk (cutB 1 (len r.1) r.1.length)<|
  Q58_L1 N N r.1 (List.take ((len r.1).toNat - 1) (List.drop 1 r.1)) (((len r.1).toNat - 1:Nat):Int) 0 l (([],([],([],[]))),([],0)) []
def Q4 (N:Nat) (l:ByteArray×ByteArray×Int) (e:ByteArray×ByteArray):Option (((ByteArray×ByteArray×Int)×Int)×Unit):=
  (Q34 N l).bind fun r=>
  bif !r.1 then
    some ((l,1),())
  else
    (Q35 N e).bind fun r1=>
    bif !r1.1 then
      some ((l,1),())
    else
      (Q25 N l.2.2 e).bind fun r2=>
      bif !r2.1.2 then
        some ((l,2),())
      else
        chk (sfit l.2.1 r2.1.1)<|
        some (((l.1,(scat l.2.1 r2.1.1,iadd .i64 l.2.2 1)),0),())
def Q26 (N:Nat) (c:Y2×ByteArray×ByteArray×Int) (line:ByteArray):Option (((Y2×ByteArray×ByteArray×Int)×ByteArray)×Unit):=
  (Q39 N c.1).bind fun r=>
  (Q33 N c).bind fun r1=>
  bif !r1.1 then
    some (((r.1,c.2),(⟨#[110,111]⟩:ByteArray)),())
  else
    (Q59 N line).bind fun r2=>
    bif !r2.1 then
      some (((r.1,c.2),(⟨#[98,97,100]⟩:ByteArray)),())
    else
      bif ieq c.2.2.2 60 then
        some (((r.1,c.2),(⟨#[102,117,108,108]⟩:ByteArray)),())
      else
        (Q58 N r.1 line).bind fun r3=>
        (Q4 N c.2 (line,r3.1.2)).bind fun r4=>
        some (((r3.1.1,r4.1.1),r3.1.2),())
def Q70 (N:Nat) (n:Int) (ok:Bool):Option Y12:=
  bif !ok then
    some ((⟨#[63]⟩:ByteArray),())
  else
    (Q28 N n).bind fun r=>
    some (r.1.1,())
def Q36_K1 (N:Nat) (parts2:List ByteArray) (sep2:ByteArray):Option Y8:=
  (strings_Join N parts2 sep2).bind fun r1=>
  some ((r1.1,true),())
def Q36_B1 (N:Nat) (kx:Y11→ByteArray→Int→Y11→Int→Int→Option Y8) (parts1:List ByteArray) (sep1:ByteArray) (total:Int) (v20:List ByteArray) (v21:Int) (v22:Int):Option Y8:=
  bif ilt v22 v21 then
    chk (inB v22 v20.length)<|
    bif ilt 4000 (iadd .i64 total (slen (gd v20 v22.toNat (⟨#[]⟩:ByteArray)))) then
      some (((⟨#[]⟩:ByteArray),false),())
    else
      (strings_Contains N (gd v20 v22.toNat (⟨#[]⟩:ByteArray)) sep1).bind fun r=>
      bif r.1 then
        some (((⟨#[]⟩:ByteArray),false),())
      else
        kx parts1 sep1 (iadd .i64 total (slen (gd v20 v22.toNat (⟨#[]⟩:ByteArray)))) v20 v21 (iadd .i64 v22 1)
  else
    Q36_K1 N parts1 sep1
def Q36_L1 (N fu_:Nat) (parts1:List ByteArray) (sep1:ByteArray) (total:Int) (v20:List ByteArray) (v21:Int) (v22:Int):Option Y8:=
  iterK fu_ (fun kx (v_:(Y11×ByteArray×Int×Y11×Int×Int×Unit)×(Unit))=>Q36_B1 N (fun parts1 sep1 total v20 v21 v22=>kx ((parts1,sep1,total,v20,v21,v22,()),())) v_.1.1 v_.1.2.1 v_.1.2.2.1 v_.1.2.2.2.1 v_.1.2.2.2.2.1 v_.1.2.2.2.2.2.1) ((parts1,sep1,total,v20,v21,v22,()),())
theorem Q36_L1_run (N:Nat) (parts1:Nat→Y11) (sep1:Nat→ByteArray) (total:Nat→Int) (v20:Nat→Y11) (v21:Nat→Int) (v22:Nat→Int) (n_:Nat) {res_:Option Y8} (hstep_:∀j_,j_<n_→∀kx_,Q36_B1 N kx_ (parts1 j_) (sep1 j_) (total j_) (v20 j_) (v21 j_) (v22 j_)=kx_ (parts1 (j_+1)) (sep1 (j_+1)) (total (j_+1)) (v20 (j_+1)) (v21 (j_+1)) (v22 (j_+1))) (hend_:∀kx_,Q36_B1 N kx_ (parts1 n_) (sep1 n_) (total n_) (v20 n_) (v21 n_) (v22 n_)=res_) (fu_:Nat) (hm_:n_<fu_):Q36_L1 N fu_ (parts1 0) (sep1 0) (total 0) (v20 0) (v21 0) (v22 0)=res_:=by
  exact loop_run (L:=fun fu_ (x_:Y11×ByteArray×Int×Y11×Int×Int)=>Q36_L1 N fu_ x_.1 x_.2.1 x_.2.2.1 x_.2.2.2.1 x_.2.2.2.2.1 x_.2.2.2.2.2) (B:=fun kx_ x_=>Q36_B1 N (fun parts1 sep1 total v20 v21 v22=>kx_ (parts1,sep1,total,v20,v21,v22)) x_.1 x_.2.1 x_.2.2.1 x_.2.2.2.1 x_.2.2.2.2.1 x_.2.2.2.2.2) (fun _ _=>rfl) (fun j_=>(parts1 j_,sep1 j_,total j_,v20 j_,v21 j_,v22 j_)) n_ (fun j_ hi_ kx_=>hstep_ j_ hi_ _) (fun kx_=>hend_ _) fu_ hm_
def Q36 (N:Nat) (parts:List ByteArray) (sep:ByteArray):Option Y8:=
  bif ieq (len parts) 0 then
    some (((⟨#[]⟩:ByteArray),false),())
  else
    bif ine (slen sep) 1 then
      some (((⟨#[]⟩:ByteArray),false),())
    else
      Q36_L1 N N parts sep (isub .i64 (len parts) 1) parts (len parts) 0
def Q71_K1 (N:Nat) (parts1:List ByteArray):Option Y12:=
  bif ieq (len parts1) 0 then
    some ((⟨#[110,111,110,101]⟩:ByteArray),())
  else
    (Q36 N parts1 (⟨#[32]⟩:ByteArray)).bind fun r1=>
    some (r1.1.1,())
def Q71_B1 (N:Nat) (kx:(List Int)→Int→Y11→Option Y12) (list1:List Int) (i:Int) (parts:List ByteArray):Option Y12:=
  bif ilt i (len list1) then
    chk (inB i list1.length)<|
    (Q70 N (gd list1 i.toNat 0) true).bind fun r=>
    chk (fitB (parts.length+1) 16)<|
    kx list1 (iadd .i64 i 1) (parts++[r.1])
  else
    Q71_K1 N parts
def Q71_L1 (N fu_:Nat) (list1:List Int) (i:Int) (parts:List ByteArray):Option Y12:=
  iterK fu_ (fun kx (v_:((List Int)×Int×Unit)×(Y11×Unit))=>Q71_B1 N (fun list1 i parts=>kx ((list1,i,()),(parts,()))) v_.1.1 v_.1.2.1 v_.2.1) ((list1,i,()),(parts,()))
theorem Q71_L1_run (N:Nat) (list1:Nat→(List Int)) (i:Nat→Int) (parts:Nat→Y11) (n_:Nat) {res_:Option Y12} (hstep_:∀j_,j_<n_→∀kx_,Q71_B1 N kx_ (list1 j_) (i j_) (parts j_)=kx_ (list1 (j_+1)) (i (j_+1)) (parts (j_+1))) (hend_:∀kx_,Q71_B1 N kx_ (list1 n_) (i n_) (parts n_)=res_) (fu_:Nat) (hm_:n_<fu_):Q71_L1 N fu_ (list1 0) (i 0) (parts 0)=res_:=by
  exact loop_run (L:=fun fu_ (x_:(List Int)×Int×Y11)=>Q71_L1 N fu_ x_.1 x_.2.1 x_.2.2) (B:=fun kx_ x_=>Q71_B1 N (fun list1 i parts=>kx_ (list1,i,parts)) x_.1 x_.2.1 x_.2.2) (fun _ _=>rfl) (fun j_=>(list1 j_,i j_,parts j_)) n_ (fun j_ hi_ kx_=>hstep_ j_ hi_ _) (fun kx_=>hend_ _) fu_ hm_
def Q71 (N:Nat) (list:List Int) (ok:Bool):Option Y12:=
  bif !ok then
    some ((⟨#[63]⟩:ByteArray),())
  else
    Q71_L1 N N list 0 []
def laws_FnConsoleLots (N:Nat) (code:List Int):Option Y6:=
  (Q69 N code).bind fun r=>
  bif r.1 then
    some (true,())
  else
    (Q85 N code).bind fun r1=>
    (Q43 N r1.1).bind fun r2=>
    bif !r2.1.2 then
      (Q86 N r1.1).bind fun r3=>
      some (!r3.1,())
    else
      (Q26 N r2.1.1 (⟨#[98,101,115,116]⟩:ByteArray)).bind fun r4=>
      (Q26 N r2.1.1 (⟨#[116,97,98,108,101]⟩:ByteArray)).bind fun r5=>
      (Q26 N r2.1.1 (⟨#[112,114,105,99,101,115]⟩:ByteArray)).bind fun r6=>
      (Q26 N r2.1.1 (⟨#[103,97,112,32,49]⟩:ByteArray)).bind fun r7=>
      (Q26 N r2.1.1 (⟨#[102,114,101,115,104,32,50]⟩:ByteArray)).bind fun r8=>
      (Q26 N r2.1.1 (⟨#[97,104,101,97,100]⟩:ByteArray)).bind fun r9=>
      (Q5 N r1.1.1).bind fun r10=>
      (Q29 N r1.1.1).bind fun r11=>
      (Q27 N r1.1.1).bind fun r12=>
      (Q45 N r1.1.1 1).bind fun r13=>
      (Q6 N r1.1.1 2).bind fun r14=>
      (Q23 N r1.1).bind fun r15=>
      (Q70 N r10.1.1 r10.1.2).bind fun r16=>
      bif !(Go.Rx.seq r4.1.2 r16.1) then
        some (false,())
      else
        (Q70 N r13.1.1 r13.1.2).bind fun r17=>
        bif !(Go.Rx.seq r7.1.2 r17.1) then
          some (false,())
        else
          (Q70 N r14.1.2.1 r14.1.2.2).bind fun r18=>
          bif !(Go.Rx.seq r8.1.2 r18.1) then
            some (false,())
          else
            (Q70 N r15.1.1 r15.1.2).bind fun r19=>
            bif !(Go.Rx.seq r9.1.2 r19.1) then
              some (false,())
            else
              (Q71 N r11.1.1 r11.1.2).bind fun r20=>
              bif Go.Rx.seq r5.1.2 r20.1 then
                (Q71 N r12.1.1 r12.1.2).bind fun r21=>
                some (Go.Rx.seq r6.1.2 r21.1,())
              else
                some (false,())
end Px
end Go.Rx
