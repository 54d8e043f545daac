/- This text defines the plain functions that the Go functions behind FnNested compute; no condition. -/
import Derived.Test.YtkkmjhibacgmfabRxd
set_option linter.unusedVariables false
set_option linter.unusedSimpArgs false
namespace Go.Rx
namespace Px
abbrev Y0 := (List Int) × (List Int) × (List Int)
abbrev Y1 := List (List Int)
abbrev Y2 := (List Int) × (List Int) × (List Int) × (List Int)
abbrev Y3 := (Y1 × Bool) × Unit
abbrev Y4 := Bool × Unit
abbrev Y5 := (List Int) × Int × Int
abbrev Y6 := Int × Unit
abbrev Y7 := (List Int) × Unit
abbrev Y8 := (Y1 × Int) × Unit
abbrev Y9 := Y1 × Int × Bool
abbrev Y10 := ((List Int) × Int) × Unit
abbrev Y11 := (Bool × Bool) × Unit
abbrev Y12 := ((List Int) × Bool) × Unit
abbrev Y13 := (Int × Int × Int) × Unit
abbrev Y14 := Y1 × Unit
abbrev Y15 := (List Int) × (List Int) × Int × Unit
abbrev Y16 := Y2 × Unit
abbrev Y17 := (List Int) × Y5
abbrev Y18 := Y0 × Y1 × Unit
abbrev Y19 := Y1 × Bool
abbrev Y20 := Y9 × Unit
abbrev Y21 := (List Int) × Int × Int × Int × Unit
abbrev Y22 := (List Int) × Int × Unit
def Q26 (N : Nat) (code : List Int) : Option Y4 :=
  some (ilt 65536 (len code), ())
def Q33_K1 (N : Nat) (b : Int) (c1 : (List Int) × Int × Int) : Option (Int × Y5) :=
  bif ile (iadd .i64 c1.2.1 1) (len c1.1) then
    some (b, (c1.1, (iadd .i64 c1.2.1 1, iadd .u64 (iadd .u64 (imul .u64 c1.2.2 6364136223846793005) (icv .u64 b)) 462197)))
  else
    chk (ile 0 40) <|
    some (icv .i64 (iand .u64 (ishr .u64 (iadd .u64 (iadd .u64 (imul .u64 c1.2.2 6364136223846793005) (icv .u64 b)) 462197) 40) 255), (c1.1, (iadd .i64 c1.2.1 1, iadd .u64 (iadd .u64 (imul .u64 c1.2.2 6364136223846793005) (icv .u64 b)) 462197)))
def Q33 (N : Nat) (c : (List Int) × Int × Int) : Option (Int × Y5) :=
  bif ilt c.2.1 (len c.1) then
    chk (inB c.2.1 c.1.length) <|
    Q33_K1 N (icv .i64 (gd c.1 c.2.1.toNat 0)) c
  else
    Q33_K1 N 0 c
def Q36 (N : Nat) (c : (List Int) × Int × Int) (n : Int) : Option (Int × Y5) :=
  bif ile n 1 then
    some (0, c)
  else
    (Q33 N c).bind fun r =>
    bif ilt 200 n then
      (Q33 N r.2).bind fun r1 =>
      chk (ine n 0) <|
      some (irem (iadd .i64 (imul .i64 r.1 256) r1.1) n, r1.2)
    else
      chk (ine n 0) <|
      some (irem r.1 n, r.2)
def Q30 (N : Nat) (c : (List Int) × Int × Int) (list : List Int) : Option (Int × Y5) :=
  (Q36 N c (len list)).bind fun r =>
  chk (inB r.1 list.length) <|
  some (gd list r.1.toNat 0, r.2)
def Q32_K1 (N : Nat) (c4 : (List Int) × Int × Int) (out3 : List Int) : Option Y17 :=
  some (out3, c4)
def Q32_B1 (N : Nat) (kx1 : Y5 → (List Int) → Option Y17) (c3 : (List Int) × Int × Int) (out2 : List Int) : Option Y17 :=
  (Q36 N c3 2).bind fun r4 =>
  bif ilt (len out2) (iadd .i64 6 r4.1) then
    chk (fitB (out2.length + 1) 8) <|
    kx1 r4.2 (out2 ++ [1])
  else
    Q32_K1 N r4.2 out2
def Q32_L1 (N fu_ : Nat) (c3 : (List Int) × Int × Int) (out2 : List Int) : Option Y17 :=
  iterK fu_ (fun kx1 (v_ : (Unit) × (Y5 × (List Int) × Unit)) => Q32_B1 N (fun c3 out2 => kx1 ((), (c3, out2, ()))) v_.2.1 v_.2.2.1) ((), (c3, out2, ()))
theorem Q32_L1_succ (N fu_ : Nat) (c3 : (List Int) × Int × Int) (out2 : List Int) : Q32_L1 N (fu_ + 1) c3 out2 = Q32_B1 N (fun c3 out2 => Q32_L1 N fu_ c3 out2) c3 out2 := rfl
def Q32_K2 (N : Nat) (c2 : (List Int) × Int × Int) (out1 : List Int) : Option Y17 :=
  (Q36 N c2 40).bind fun r2 =>
  bif ieq r2.1 0 then
    (Q30 N r2.2 [(-1), 20, 21]).bind fun r3 =>
    chk (fitB (out1.length + 1) 8) <|
    some (out1 ++ [r3.1], r3.2)
  else
    bif ieq r2.1 1 then
      Q32_L1 N N r2.2 out1
    else
      some (out1, r2.2)
def Q32_B2 (N : Nat) (kx : Int → Y5 → (List Int) → Option Y17) (n : Int) (c1 : (List Int) × Int × Int) (out : List Int) : Option Y17 :=
  bif ilt 0 n then
    (Q30 N c1 [1, 2, 0, 3, 5, 8]).bind fun r1 =>
    chk (fitB (out.length + 1) 8) <|
    kx (isub .i64 n 1) r1.2 (out ++ [r1.1])
  else
    Q32_K2 N c1 out
def Q32_L2 (N fu_ : Nat) (n : Int) (c1 : (List Int) × Int × Int) (out : List Int) : Option Y17 :=
  iterK fu_ (fun kx (v_ : Y6 × (Y5 × (List Int) × Unit)) => Q32_B2 N (fun n c1 out => kx ((n, ()), (c1, out, ()))) v_.1.1 v_.2.1 v_.2.2.1) ((n, ()), (c1, out, ()))
theorem Q32_L2_succ (N fu_ : Nat) (n : Int) (c1 : (List Int) × Int × Int) (out : List Int) : Q32_L2 N (fu_ + 1) n c1 out = Q32_B2 N (fun n c1 out => Q32_L2 N fu_ n c1 out) n c1 out := rfl
def Q32 (N : Nat) (c : (List Int) × Int × Int) : Option Y17 :=
  (Q30 N c [4, 3, 5, 2, 1, 0]).bind fun r =>
  Q32_L2 N N r.1 r.2 []
def Q31_K1 (N : Nat) (c2 : (List Int) × Int × Int) (v21 : (List Int) × (List Int) × (List Int)) (out1 : (List Int) × (List Int) × (List Int)) : Option (Y0 × Y5) :=
  (Q36 N c2 48).bind fun r4 =>
  bif ieq r4.1 0 then
    chk (fitB (out1.2.2.length + 1) 8) <|
    some ((out1.1, (out1.2.1, out1.2.2 ++ [9])), r4.2)
  else
    bif ieq r4.1 1 then
      (Q30 N r4.2 [(-1), 9, 10]).bind fun r5 =>
      chk (inB 0 out1.2.2.length) <|
      some ((out1.1, (out1.2.1, List.set out1.2.2 0 r5.1)), r5.2)
    else
      bif ieq r4.1 2 then
        (Q30 N r4.2 [(-1), 99, 100]).bind fun r6 =>
        chk (inB 0 out1.2.1.length) <|
        some ((out1.1, (List.set out1.2.1 0 r6.1, out1.2.2)), r6.2)
      else
        bif ieq r4.1 3 then
          some ((out1.1, ([], out1.2.2)), r4.2)
        else
          some (out1, r4.2)
def Q31_B1 (N : Nat) (kx : Int → Int → Y5 → Y0 → Y0 → Option (Y0 × Y5)) (hold : Int) (n : Int) (c1 : (List Int) × Int × Int) (v2 : (List Int) × (List Int) × (List Int)) (out : (List Int) × (List Int) × (List Int)) : Option (Y0 × Y5) :=
  bif ilt 0 n then
    (Q30 N c1 [5, 8, 3, 12, 0, 20]).bind fun r2 =>
    chk (fitB (out.2.1.length + 1) 8) <|
    (Q30 N r2.2 [1, 0, 1, 2]).bind fun r3 =>
    chk (fitB (out.2.2.length + 1) 8) <|
    kx (iadd .i64 hold r3.1) (isub .i64 n 1) r3.2 v2 (out.1, (out.2.1 ++ [r2.1], out.2.2 ++ [iadd .i64 hold r3.1]))
  else
    Q31_K1 N c1 v2 out
def Q31_L1 (N fu_ : Nat) (hold : Int) (n : Int) (c1 : (List Int) × Int × Int) (v2 : (List Int) × (List Int) × (List Int)) (out : (List Int) × (List Int) × (List Int)) : Option (Y0 × Y5) :=
  iterK fu_ (fun kx (v_ : (Int × Int × Unit) × (Y5 × Y0 × Y0 × Unit)) => Q31_B1 N (fun hold n c1 v2 out => kx ((hold, n, ()), (c1, v2, out, ()))) v_.1.1 v_.1.2.1 v_.2.1 v_.2.2.1 v_.2.2.2.1) ((hold, n, ()), (c1, v2, out, ()))
theorem Q31_L1_succ (N fu_ : Nat) (hold : Int) (n : Int) (c1 : (List Int) × Int × Int) (v2 : (List Int) × (List Int) × (List Int)) (out : (List Int) × (List Int) × (List Int)) : Q31_L1 N (fu_ + 1) hold n c1 v2 out = Q31_B1 N (fun hold n c1 v2 out => Q31_L1 N fu_ hold n c1 v2 out) hold n c1 v2 out := rfl
def Q31 (N : Nat) (c : (List Int) × Int × Int) : Option (Y0 × Y5) :=
  (Q32 N c).bind fun r =>
  (Q30 N r.2 [2, 3, 2, 1]).bind fun r1 =>
  Q31_L1 N N 0 r1.1 r1.2 ([], ([], [])) (r.1, ([], []))
def Q49 (N : Nat) (a : Int) (b : Int) : Option Y6 :=
  bif ilt a b then
    some (a, ())
  else
    some (b, ())
def Q55_K1 (N : Nat) (out1 : List Int) : Option Y7 :=
  some (out1, ())
def Q55_B1 (N : Nat) (kx : Int → Int → Int → (List Int) → Option Y7) (n1 : Int) (code1 : Int) (x : Int) (out : List Int) : Option Y7 :=
  bif ilt x n1 then
    chk (ile 0 x) <|
    bif ieq (iand .i64 (ishr .i64 code1 x) 1) 1 then
      chk (fitB (out.length + 1) 8) <|
      kx n1 code1 (iadd .i64 x 1) (out ++ [x])
    else
      kx n1 code1 (iadd .i64 x 1) out
  else
    Q55_K1 N out
def Q55_L1 (N fu_ : Nat) (n1 : Int) (code1 : Int) (x : Int) (out : List Int) : Option Y7 :=
  iterK fu_ (fun kx (v_ : (Int × Int × Int × Unit) × Y7) => Q55_B1 N (fun n1 code1 x out => kx ((n1, code1, x, ()), (out, ()))) v_.1.1 v_.1.2.1 v_.1.2.2.1 v_.2.1) ((n1, code1, x, ()), (out, ()))
theorem Q55_L1_run (N : Nat) (n1 : Nat → Int) (code1 : Nat → Int) (x : Nat → Int) (out : Nat → (List Int)) (n_ : Nat) {res_ : Option Y7} (hstep_ : ∀ j_, j_ < n_ → ∀ kx_, Q55_B1 N kx_ (n1 j_) (code1 j_) (x j_) (out j_) = kx_ (n1 (j_ + 1)) (code1 (j_ + 1)) (x (j_ + 1)) (out (j_ + 1))) (hend_ : ∀ kx_, Q55_B1 N kx_ (n1 n_) (code1 n_) (x n_) (out n_) = res_) (fu_ : Nat) (hm_ : n_ < fu_) : Q55_L1 N fu_ (n1 0) (code1 0) (x 0) (out 0) = res_ := by
  exact loop_run (L := fun fu_ (x_ : Int × Int × Int × (List Int)) => Q55_L1 N fu_ x_.1 x_.2.1 x_.2.2.1 x_.2.2.2) (B := fun kx_ x_ => Q55_B1 N (fun n1 code1 x out => kx_ (n1, code1, x, out)) x_.1 x_.2.1 x_.2.2.1 x_.2.2.2) (fun _ _ => rfl) (fun j_ => (n1 j_, code1 j_, x j_, out j_)) n_ (fun j_ hi_ kx_ => hstep_ j_ hi_ _) (fun kx_ => hend_ _) fu_ hm_
def Q55 (N : Nat) (n : Int) (code : Int) : Option Y7 :=
  Q55_L1 N N n code 0 []
def Q47_K1 (N : Nat) : Option Y4 :=
  some (false, ())
def Q47_B1 (N : Nat) (kx : (List Int) → Int → Int → Option Y4) (l1 : List Int) (n1 : Int) (i : Int) : Option Y4 :=
  bif ilt i (len l1) then
    chk (inB i l1.length) <|
    bif ieq (gd l1 i.toNat 0) n1 then
      some (true, ())
    else
      kx l1 n1 (iadd .i64 i 1)
  else
    Q47_K1 N
def Q47_L1 (N fu_ : Nat) (l1 : List Int) (n1 : Int) (i : Int) : Option Y4 :=
  iterK fu_ (fun kx (v_ : ((List Int) × Int × Int × Unit) × (Unit)) => Q47_B1 N (fun l1 n1 i => kx ((l1, n1, i, ()), ())) v_.1.1 v_.1.2.1 v_.1.2.2.1) ((l1, n1, i, ()), ())
theorem Q47_L1_run (N : Nat) (l1 : Nat → (List Int)) (n1 : Nat → Int) (i : Nat → Int) (n_ : Nat) {res_ : Option Y4} (hstep_ : ∀ j_, j_ < n_ → ∀ kx_, Q47_B1 N kx_ (l1 j_) (n1 j_) (i j_) = kx_ (l1 (j_ + 1)) (n1 (j_ + 1)) (i (j_ + 1))) (hend_ : ∀ kx_, Q47_B1 N kx_ (l1 n_) (n1 n_) (i n_) = res_) (fu_ : Nat) (hm_ : n_ < fu_) : Q47_L1 N fu_ (l1 0) (n1 0) (i 0) = res_ := by
  exact loop_run (L := fun fu_ (x_ : (List Int) × Int × Int) => Q47_L1 N fu_ x_.1 x_.2.1 x_.2.2) (B := fun kx_ x_ => Q47_B1 N (fun l1 n1 i => kx_ (l1, n1, i)) x_.1 x_.2.1 x_.2.2) (fun _ _ => rfl) (fun j_ => (l1 j_, n1 j_, i j_)) n_ (fun j_ hi_ kx_ => hstep_ j_ hi_ _) (fun kx_ => hend_ _) fu_ hm_
def Q47 (N : Nat) (l : List Int) (n : Int) : Option Y4 :=
  Q47_L1 N N l n 0
def Q34 (N : Nat) (c : (List Int) × Int × Int) (n : Int) : Option (Bool × Y5) :=
  (Q36 N c n).bind fun r =>
  some (ieq r.1 0, r.2)
def Q51_K1 (N : Nat) (n2 : Int) (kx2 : Int) (l2 : List Int) : Option Y7 :=
  bif ilt kx2 (len l2) then
    chk (inB kx2 l2.length) <|
    bif ieq (gd l2 kx2.toNat 0) n2 then
      some (l2, ())
    else
      chk (cutB 0 kx2 l2.length) <|
      chk (fitB (0 + (List.take (kx2.toNat - 0) (List.drop 0 l2)).length) 8) <|
      chk (fitB ((List.take (kx2.toNat - 0) (List.drop 0 l2)).length + 1) 8) <|
      chk (cutB kx2 (len l2) l2.length) <|
      chk (fitB (((List.take (kx2.toNat - 0) (List.drop 0 l2)) ++ [n2]).length + (List.take ((len l2).toNat - kx2.toNat) (List.drop kx2.toNat l2)).length) 8) <|
      some (((List.take (kx2.toNat - 0) (List.drop 0 l2)) ++ [n2]) ++ (List.take ((len l2).toNat - kx2.toNat) (List.drop kx2.toNat l2)), ())
  else
    chk (cutB 0 kx2 l2.length) <|
    chk (fitB (0 + (List.take (kx2.toNat - 0) (List.drop 0 l2)).length) 8) <|
    chk (fitB ((List.take (kx2.toNat - 0) (List.drop 0 l2)).length + 1) 8) <|
    chk (cutB kx2 (len l2) l2.length) <|
    chk (fitB (((List.take (kx2.toNat - 0) (List.drop 0 l2)) ++ [n2]).length + (List.take ((len l2).toNat - kx2.toNat) (List.drop kx2.toNat l2)).length) 8) <|
    some (((List.take (kx2.toNat - 0) (List.drop 0 l2)) ++ [n2]) ++ (List.take ((len l2).toNat - kx2.toNat) (List.drop kx2.toNat l2)), ())
def Q51_B1 (N : Nat) (kx1 : Int → Int → (List Int) → Option Y7) (n1 : Int) (kx : Int) (l1 : List Int) : Option Y7 :=
  bif ilt kx (len l1) then
    chk (inB kx l1.length) <|
    bif ilt (gd l1 kx.toNat 0) n1 then
      kx1 n1 (iadd .i64 kx 1) l1
    else
      Q51_K1 N n1 kx l1
  else
    Q51_K1 N n1 kx l1
def Q51_L1 (N fu_ : Nat) (n1 : Int) (kx : Int) (l1 : List Int) : Option Y7 :=
  iterK fu_ (fun kx1 (v_ : (Int × Int × Unit) × Y7) => Q51_B1 N (fun n1 kx l1 => kx1 ((n1, kx, ()), (l1, ()))) v_.1.1 v_.1.2.1 v_.2.1) ((n1, kx, ()), (l1, ()))
theorem Q51_L1_run (N : Nat) (n1 : Nat → Int) (kx : Nat → Int) (l1 : Nat → (List Int)) (n_ : Nat) {res_ : Option Y7} (hstep_ : ∀ j_, j_ < n_ → ∀ kx_, Q51_B1 N kx_ (n1 j_) (kx j_) (l1 j_) = kx_ (n1 (j_ + 1)) (kx (j_ + 1)) (l1 (j_ + 1))) (hend_ : ∀ kx_, Q51_B1 N kx_ (n1 n_) (kx n_) (l1 n_) = res_) (fu_ : Nat) (hm_ : n_ < fu_) : Q51_L1 N fu_ (n1 0) (kx 0) (l1 0) = res_ := by
  exact loop_run (L := fun fu_ (x_ : Int × Int × (List Int)) => Q51_L1 N fu_ x_.1 x_.2.1 x_.2.2) (B := fun kx_ x_ => Q51_B1 N (fun n1 kx l1 => kx_ (n1, kx, l1)) x_.1 x_.2.1 x_.2.2) (fun _ _ => rfl) (fun j_ => (n1 j_, kx j_, l1 j_)) n_ (fun j_ hi_ kx_ => hstep_ j_ hi_ _) (fun kx_ => hend_ _) fu_ hm_
def Q51 (N : Nat) (l : List Int) (n : Int) : Option Y7 :=
  Q51_L1 N N n 0 l
def Q35_K1 (N : Nat) (kx4 : Int → Y5 → Y0 → (List Int) → Y1 → Option (Y1 × Y5)) (s2 : Int) (c5 : (List Int) × Int × Int) (kx7 : (List Int) × (List Int) × (List Int)) (out2 : List (List Int)) (fewer1 : List Int) : Option (Y1 × Y5) :=
  kx4 (iadd .i64 s2 1) c5 kx7 fewer1 out2
def Q35_B1 (N : Nat) (kx4 : Int → Y5 → Y0 → (List Int) → Y1 → Option (Y1 × Y5)) (kx6 : Nat → Int → Int → Y5 → Y0 → Y1 → (List Int) → Option (Y1 × Y5)) (lasti : Nat) (s1 : Int) (i : Int) (c4 : (List Int) × Int × Int) (kx5 : (List Int) × (List Int) × (List Int)) (out1 : List (List Int)) (fewer : List Int) : Option (Y1 × Y5) :=
  bif ilt i (len (gd out1 lasti [])) then
    bif ieq i 0 then
      (Q34 N c4 16).bind fun r6 =>
      bif !r6.1 then
        chk (inB i (gd out1 lasti []).length) <|
        chk (fitB (fewer.length + 1) 8) <|
        kx6 lasti s1 (iadd .i64 i 1) r6.2 kx5 out1 (fewer ++ [gd (gd out1 lasti []) i.toNat 0])
      else
        bif ilt 0 i then
          (Q34 N r6.2 2).bind fun r7 =>
          bif r7.1 then
            chk (inB i (gd out1 lasti []).length) <|
            chk (fitB (fewer.length + 1) 8) <|
            kx6 lasti s1 (iadd .i64 i 1) r7.2 kx5 out1 (fewer ++ [gd (gd out1 lasti []) i.toNat 0])
          else
            kx6 lasti s1 (iadd .i64 i 1) r7.2 kx5 out1 fewer
        else
          kx6 lasti s1 (iadd .i64 i 1) r6.2 kx5 out1 fewer
    else
      bif ilt 0 i then
        (Q34 N c4 2).bind fun r8 =>
        bif r8.1 then
          chk (inB i (gd out1 lasti []).length) <|
          chk (fitB (fewer.length + 1) 8) <|
          kx6 lasti s1 (iadd .i64 i 1) r8.2 kx5 out1 (fewer ++ [gd (gd out1 lasti []) i.toNat 0])
        else
          kx6 lasti s1 (iadd .i64 i 1) r8.2 kx5 out1 fewer
      else
        kx6 lasti s1 (iadd .i64 i 1) c4 kx5 out1 fewer
  else
    Q35_K1 N kx4 s1 c4 kx5 out1 fewer
def Q35_L1 (N fu_ : Nat) (kx4 : Int → Y5 → Y0 → (List Int) → Y1 → Option (Y1 × Y5)) (lasti : Nat) (s1 : Int) (i : Int) (c4 : (List Int) × Int × Int) (kx5 : (List Int) × (List Int) × (List Int)) (out1 : List (List Int)) (fewer : List Int) : Option (Y1 × Y5) :=
  iterK fu_ (fun kx6 (v_ : (Nat × Int × Int × Unit) × (Y5 × Y0 × Y1 × (List Int) × Unit)) => Q35_B1 N kx4 (fun lasti s1 i c4 kx5 out1 fewer => kx6 ((lasti, s1, i, ()), (c4, kx5, out1, fewer, ()))) v_.1.1 v_.1.2.1 v_.1.2.2.1 v_.2.1 v_.2.2.1 v_.2.2.2.1 v_.2.2.2.2.1) ((lasti, s1, i, ()), (c4, kx5, out1, fewer, ()))
theorem Q35_L1_succ (N fu_ : Nat) (kx4 : Int → Y5 → Y0 → (List Int) → Y1 → Option (Y1 × Y5)) (lasti : Nat) (s1 : Int) (i : Int) (c4 : (List Int) × Int × Int) (kx5 : (List Int) × (List Int) × (List Int)) (out1 : List (List Int)) (fewer : List Int) : Q35_L1 N (fu_ + 1) kx4 lasti s1 i c4 kx5 out1 fewer = Q35_B1 N kx4 (fun lasti s1 i c4 kx5 out1 fewer => Q35_L1 N fu_ kx4 lasti s1 i c4 kx5 out1 fewer) lasti s1 i c4 kx5 out1 fewer := rfl
def Q35_K2 (N : Nat) (c6 : (List Int) × Int × Int) (out3 : List (List Int)) : Option (Y1 × Y5) :=
  bif ilt 0 (len out3) then
    (Q34 N c6 24).bind fun r9 =>
    bif r9.1 then
      chk (inB 0 out3.length) <|
      (Q30 N r9.2 [(-1), 0, 6]).bind fun r10 =>
      chk (fitB ((gd out3 0 []).length + 1) 8) <|
      chk (inB 0 out3.length) <|
      chk (natEq 0 0) <|
      some (List.set out3 0 ((gd out3 0 []) ++ [r10.1]), r10.2)
    else
      some (out3, r9.2)
  else
    some (out3, c6)
def Q35_B2 (N : Nat) (kx4 : Int → Y5 → Y0 → (List Int) → Y1 → Option (Y1 × Y5)) (s : Int) (c3 : (List Int) × Int × Int) (kx3 : (List Int) × (List Int) × (List Int)) (last2 : List Int) (out : List (List Int)) : Option (Y1 × Y5) :=
  bif ilt s (len kx3.2.1) then
    chk (fitB (1 + out.length) 24) <|
    Q35_L1 N N kx4 0 s 0 c3 kx3 ([last2] ++ out) []
  else
    Q35_K2 N c3 out
def Q35_L2 (N fu_ : Nat) (s : Int) (c3 : (List Int) × Int × Int) (kx3 : (List Int) × (List Int) × (List Int)) (last2 : List Int) (out : List (List Int)) : Option (Y1 × Y5) :=
  iterK fu_ (fun kx4 (v_ : Y6 × (Y5 × Y0 × (List Int) × Y1 × Unit)) => Q35_B2 N (fun s c3 kx3 last2 out => kx4 ((s, ()), (c3, kx3, last2, out, ()))) v_.1.1 v_.2.1 v_.2.2.1 v_.2.2.2.1 v_.2.2.2.2.1) ((s, ()), (c3, kx3, last2, out, ()))
theorem Q35_L2_succ (N fu_ : Nat) (s : Int) (c3 : (List Int) × Int × Int) (kx3 : (List Int) × (List Int) × (List Int)) (last2 : List Int) (out : List (List Int)) : Q35_L2 N (fu_ + 1) s c3 kx3 last2 out = Q35_B2 N (fun s c3 kx3 last2 out => Q35_L2 N fu_ s c3 kx3 last2 out) s c3 kx3 last2 out := rfl
def Q35_K3 (N : Nat) (c2 : (List Int) × Int × Int) (kx2 : (List Int) × (List Int) × (List Int)) (last1 : List Int) : Option (Y1 × Y5) :=
  Q35_L2 N N 0 c2 kx2 last1 []
def Q35_K4 (N : Nat) (v32 : Bool) (c1 : (List Int) × Int × Int) (kx1 : (List Int) × (List Int) × (List Int)) (last : List Int) : Option (Y1 × Y5) :=
  bif v32 then
    (Q51 N last 0).bind fun r5 =>
    Q35_K3 N c1 kx1 r5.1
  else
    Q35_K3 N c1 kx1 last
def Q35 (N : Nat) (c : (List Int) × Int × Int) (kx : (List Int) × (List Int) × (List Int)) : Option (Y1 × Y5) :=
  (Q49 N (len kx.1) 6).bind fun r =>
  chk (ile 0 r.1) <|
  (Q36 N c (ishl .i64 1 r.1)).bind fun r1 =>
  (Q55 N r.1 r1.1).bind fun r2 =>
  bif ilt 0 r.1 then
    (Q47 N r2.1 0).bind fun r3 =>
    bif !r3.1 then
      (Q34 N r1.2 6).bind fun r4 =>
      Q35_K4 N (!r4.1) r4.2 kx r2.1
    else
      Q35_K4 N false r1.2 kx r2.1
  else
    Q35_K4 N false r1.2 kx r2.1
def Q44 (N : Nat) (code : List Int) : Option ((Y0 × Y1) × Unit) :=
  (Q31 N (code, (0, 0))).bind fun r =>
  (Q35 N r.2 r.1).bind fun r1 =>
  some ((r.1, r1.1), ())
def Q25 (N : Nat) (n : Int) (low : Int) (high : Int) : Option Y4 :=
  bif ile low n then
    some (ile n high, ())
  else
    some (false, ())
def Q20_K1 (N : Nat) : Option Y4 :=
  some (true, ())
def Q20_B1 (N : Nat) (kx : Int → Int → (List Int) → Int → Int → Option Y4) (low1 : Int) (high1 : Int) (v9 : List Int) (v10 : Int) (v11 : Int) : Option Y4 :=
  bif ilt v11 v10 then
    chk (inB v11 v9.length) <|
    (Q25 N (gd v9 v11.toNat 0) low1 high1).bind fun r =>
    bif !r.1 then
      some (false, ())
    else
      kx low1 high1 v9 v10 (iadd .i64 v11 1)
  else
    Q20_K1 N
def Q20_L1 (N fu_ : Nat) (low1 : Int) (high1 : Int) (v9 : List Int) (v10 : Int) (v11 : Int) : Option Y4 :=
  iterK fu_ (fun kx (v_ : (Int × Int × (List Int) × Int × Int × Unit) × (Unit)) => Q20_B1 N (fun low1 high1 v9 v10 v11 => kx ((low1, high1, v9, v10, v11, ()), ())) v_.1.1 v_.1.2.1 v_.1.2.2.1 v_.1.2.2.2.1 v_.1.2.2.2.2.1) ((low1, high1, v9, v10, v11, ()), ())
theorem Q20_L1_run (N : Nat) (low1 : Nat → Int) (high1 : Nat → Int) (v9 : Nat → (List Int)) (v10 : Nat → Int) (v11 : Nat → Int) (n_ : Nat) {res_ : Option Y4} (hstep_ : ∀ j_, j_ < n_ → ∀ kx_, Q20_B1 N kx_ (low1 j_) (high1 j_) (v9 j_) (v10 j_) (v11 j_) = kx_ (low1 (j_ + 1)) (high1 (j_ + 1)) (v9 (j_ + 1)) (v10 (j_ + 1)) (v11 (j_ + 1))) (hend_ : ∀ kx_, Q20_B1 N kx_ (low1 n_) (high1 n_) (v9 n_) (v10 n_) (v11 n_) = res_) (fu_ : Nat) (hm_ : n_ < fu_) : Q20_L1 N fu_ (low1 0) (high1 0) (v9 0) (v10 0) (v11 0) = res_ := by
  exact loop_run (L := fun fu_ (x_ : Int × Int × (List Int) × Int × Int) => Q20_L1 N fu_ x_.1 x_.2.1 x_.2.2.1 x_.2.2.2.1 x_.2.2.2.2) (B := fun kx_ x_ => Q20_B1 N (fun low1 high1 v9 v10 v11 => kx_ (low1, high1, v9, v10, v11)) x_.1 x_.2.1 x_.2.2.1 x_.2.2.2.1 x_.2.2.2.2) (fun _ _ => rfl) (fun j_ => (low1 j_, high1 j_, v9 j_, v10 j_, v11 j_)) n_ (fun j_ hi_ kx_ => hstep_ j_ hi_ _) (fun kx_ => hend_ _) fu_ hm_
def Q20 (N : Nat) (list : List Int) (low : Int) (high : Int) : Option Y4 :=
  Q20_L1 N N low high list (len list) 0
def Q2 (N : Nat) (x : Int) : Option Y4 :=
  some (ine x x, ())
def Q1 (N : Nat) (x : Int) (y : Int) : Option Y4 :=
  (Q2 N x).bind fun r =>
  bif r.1 then
    (Q2 N y).bind fun r1 =>
    bif !r1.1 then
      some (true, ())
    else
      some (ilt x y, ())
  else
    some (ilt x y, ())
def Q41_K1 (N : Nat) : Option Y4 :=
  some (true, ())
def Q41_B1 (N : Nat) (kx : (List Int) → Int → Option Y4) (x1 : List Int) (i : Int) : Option Y4 :=
  bif ilt 0 i then
    chk (inB i x1.length) <|
    chk (inB (isub .i64 i 1) x1.length) <|
    (Q1 N (gd x1 i.toNat 0) (gd x1 (isub .i64 i 1).toNat 0)).bind fun r =>
    bif r.1 then
      some (false, ())
    else
      kx x1 (isub .i64 i 1)
  else
    Q41_K1 N
def Q41_L1 (N fu_ : Nat) (x1 : List Int) (i : Int) : Option Y4 :=
  iterK fu_ (fun kx (v_ : Y22 × (Unit)) => Q41_B1 N (fun x1 i => kx ((x1, i, ()), ())) v_.1.1 v_.1.2.1) ((x1, i, ()), ())
theorem Q41_L1_run (N : Nat) (x1 : Nat → (List Int)) (i : Nat → Int) (n_ : Nat) {res_ : Option Y4} (hstep_ : ∀ j_, j_ < n_ → ∀ kx_, Q41_B1 N kx_ (x1 j_) (i j_) = kx_ (x1 (j_ + 1)) (i (j_ + 1))) (hend_ : ∀ kx_, Q41_B1 N kx_ (x1 n_) (i n_) = res_) (fu_ : Nat) (hm_ : n_ < fu_) : Q41_L1 N fu_ (x1 0) (i 0) = res_ := by
  exact loop_run (L := fun fu_ (x_ : (List Int) × Int) => Q41_L1 N fu_ x_.1 x_.2) (B := fun kx_ x_ => Q41_B1 N (fun x1 i => kx_ (x1, i)) x_.1 x_.2) (fun _ _ => rfl) (fun j_ => (x1 j_, i j_)) n_ (fun j_ hi_ kx_ => hstep_ j_ hi_ _) (fun kx_ => hend_ _) fu_ hm_
def Q41 (N : Nat) (x : List Int) : Option Y4 :=
  Q41_L1 N N x (isub .i64 (len x) 1)
def Q16 (N : Nat) (c : (List Int) × (List Int) × (List Int)) : Option Y4 :=
  bif ile (len c.1) 6 then
    (Q20 N c.1 0 20).bind fun r =>
    bif r.1 then
      (Q25 N (len c.2.1) 1 3).bind fun r1 =>
      bif r1.1 then
        bif ieq (len c.2.2) (len c.2.1) then
          (Q20 N c.2.1 0 99).bind fun r2 =>
          bif r2.1 then
            (Q20 N c.2.2 0 9).bind fun r3 =>
            bif r3.1 then
              (Q41 N c.2.2).bind fun r4 =>
              some (r4.1, ())
            else
              some (false, ())
          else
            some (false, ())
        else
          some (false, ())
      else
        some (false, ())
    else
      some (false, ())
  else
    some (false, ())
def Q21 (N : Nat) (list : List Int) : Option Y7 :=
  chk (fitB (0 + list.length) 8) <|
  some (list, ())
def Q22_K1 (N : Nat) (v61 : (List Int) × (List Int) × (List Int) × (List Int)) (c1 : (List Int) × (List Int) × (List Int) × (List Int)) : Option Y16 :=
  some (c1, ())
def Q22_B1 (N : Nat) (kx : Int → Int → Int → Int → Y2 → Y2 → Option Y16) (setup1 : Int) (hold1 : Int) (v15 : Int) (v16 : Int) (v6 : (List Int) × (List Int) × (List Int) × (List Int)) (c : (List Int) × (List Int) × (List Int) × (List Int)) : Option Y16 :=
  bif ilt v16 v15 then
    chk (fitB (c.2.1.length + 1) 8) <|
    chk (fitB (c.2.2.2.length + 1) 8) <|
    kx setup1 hold1 v15 (iadd .i64 v16 1) v6 (c.1, (c.2.1 ++ [setup1], (c.2.2.1, c.2.2.2 ++ [hold1])))
  else
    Q22_K1 N v6 c
def Q22_L1 (N fu_ : Nat) (setup1 : Int) (hold1 : Int) (v15 : Int) (v16 : Int) (v6 : (List Int) × (List Int) × (List Int) × (List Int)) (c : (List Int) × (List Int) × (List Int) × (List Int)) : Option Y16 :=
  iterK fu_ (fun kx (v_ : (Int × Int × Int × Int × Unit) × (Y2 × Y2 × Unit)) => Q22_B1 N (fun setup1 hold1 v15 v16 v6 c => kx ((setup1, hold1, v15, v16, ()), (v6, c, ()))) v_.1.1 v_.1.2.1 v_.1.2.2.1 v_.1.2.2.2.1 v_.2.1 v_.2.2.1) ((setup1, hold1, v15, v16, ()), (v6, c, ()))
theorem Q22_L1_run (N : Nat) (setup1 : Nat → Int) (hold1 : Nat → Int) (v15 : Nat → Int) (v16 : Nat → Int) (v6 : Nat → Y2) (c : Nat → Y2) (n_ : Nat) {res_ : Option Y16} (hstep_ : ∀ j_, j_ < n_ → ∀ kx_, Q22_B1 N kx_ (setup1 j_) (hold1 j_) (v15 j_) (v16 j_) (v6 j_) (c j_) = kx_ (setup1 (j_ + 1)) (hold1 (j_ + 1)) (v15 (j_ + 1)) (v16 (j_ + 1)) (v6 (j_ + 1)) (c (j_ + 1))) (hend_ : ∀ kx_, Q22_B1 N kx_ (setup1 n_) (hold1 n_) (v15 n_) (v16 n_) (v6 n_) (c n_) = res_) (fu_ : Nat) (hm_ : n_ < fu_) : Q22_L1 N fu_ (setup1 0) (hold1 0) (v15 0) (v16 0) (v6 0) (c 0) = res_ := by
  exact loop_run (L := fun fu_ (x_ : Int × Int × Int × Int × Y2 × Y2) => Q22_L1 N fu_ x_.1 x_.2.1 x_.2.2.1 x_.2.2.2.1 x_.2.2.2.2.1 x_.2.2.2.2.2) (B := fun kx_ x_ => Q22_B1 N (fun setup1 hold1 v15 v16 v6 c => kx_ (setup1, hold1, v15, v16, v6, c)) x_.1 x_.2.1 x_.2.2.1 x_.2.2.2.1 x_.2.2.2.2.1 x_.2.2.2.2.2) (fun _ _ => rfl) (fun j_ => (setup1 j_, hold1 j_, v15 j_, v16 j_, v6 j_, c j_)) n_ (fun j_ hi_ kx_ => hstep_ j_ hi_ _) (fun kx_ => hend_ _) fu_ hm_
def Q22 (N : Nat) (need : List Int) (setup : Int) (hold : Int) : Option Y16 :=
  (Q21 N need).bind fun r =>
  chk (mkB (len need) 8) <|
  Q22_L1 N N setup hold (len need) 0 ([], ([], ([], []))) (r.1, ([], (List.replicate (len need).toNat 0, [])))
def Q5_K1 (N : Nat) : Option Y4 :=
  some (true, ())
def Q5_B1 (N : Nat) (kx : (List Int) → (List Int) → Int → Int → Y2 → Option Y4) (periods1 : List Int) (v7 : List Int) (v8 : Int) (v9 : Int) (c1 : (List Int) × (List Int) × (List Int) × (List Int)) : Option Y4 :=
  bif ilt v9 v8 then
    chk (inB v9 v7.length) <|
    (Q25 N (gd v7 v9.toNat 0) 0 (isub .i64 (len c1.1) 1)).bind fun r =>
    bif !r.1 then
      some (false, ())
    else
      bif ilt 0 v9 then
        chk (inB (isub .i64 v9 1) periods1.length) <|
        bif ile (gd v7 v9.toNat 0) (gd periods1 (isub .i64 v9 1).toNat 0) then
          some (false, ())
        else
          kx periods1 v7 v8 (iadd .i64 v9 1) c1
      else
        kx periods1 v7 v8 (iadd .i64 v9 1) c1
  else
    Q5_K1 N
def Q5_L1 (N fu_ : Nat) (periods1 : List Int) (v7 : List Int) (v8 : Int) (v9 : Int) (c1 : (List Int) × (List Int) × (List Int) × (List Int)) : Option Y4 :=
  iterK fu_ (fun kx (v_ : ((List Int) × (List Int) × Int × Int × Unit) × Y16) => Q5_B1 N (fun periods1 v7 v8 v9 c1 => kx ((periods1, v7, v8, v9, ()), (c1, ()))) v_.1.1 v_.1.2.1 v_.1.2.2.1 v_.1.2.2.2.1 v_.2.1) ((periods1, v7, v8, v9, ()), (c1, ()))
theorem Q5_L1_run (N : Nat) (periods1 : Nat → (List Int)) (v7 : Nat → (List Int)) (v8 : Nat → Int) (v9 : Nat → Int) (c1 : Nat → Y2) (n_ : Nat) {res_ : Option Y4} (hstep_ : ∀ j_, j_ < n_ → ∀ kx_, Q5_B1 N kx_ (periods1 j_) (v7 j_) (v8 j_) (v9 j_) (c1 j_) = kx_ (periods1 (j_ + 1)) (v7 (j_ + 1)) (v8 (j_ + 1)) (v9 (j_ + 1)) (c1 (j_ + 1))) (hend_ : ∀ kx_, Q5_B1 N kx_ (periods1 n_) (v7 n_) (v8 n_) (v9 n_) (c1 n_) = res_) (fu_ : Nat) (hm_ : n_ < fu_) : Q5_L1 N fu_ (periods1 0) (v7 0) (v8 0) (v9 0) (c1 0) = res_ := by
  exact loop_run (L := fun fu_ (x_ : (List Int) × (List Int) × Int × Int × Y2) => Q5_L1 N fu_ x_.1 x_.2.1 x_.2.2.1 x_.2.2.2.1 x_.2.2.2.2) (B := fun kx_ x_ => Q5_B1 N (fun periods1 v7 v8 v9 c1 => kx_ (periods1, v7, v8, v9, c1)) x_.1 x_.2.1 x_.2.2.1 x_.2.2.2.1 x_.2.2.2.2) (fun _ _ => rfl) (fun j_ => (periods1 j_, v7 j_, v8 j_, v9 j_, c1 j_)) n_ (fun j_ hi_ kx_ => hstep_ j_ hi_ _) (fun kx_ => hend_ _) fu_ hm_
def Q5 (N : Nat) (c : (List Int) × (List Int) × (List Int) × (List Int)) (periods : List Int) : Option Y4 :=
  Q5_L1 N N periods periods (len periods) 0 c
def Q40_K1 (N : Nat) : Option Y6 :=
  some ((-1), ())
def Q40_B1 (N : Nat) (kx : (List Int) → Int → Int → Int → Option Y6) (s1 : List Int) (v1 : Int) (v7 : Int) (v8 : Int) : Option Y6 :=
  bif ilt v8 v7 then
    chk (inB v8 s1.length) <|
    bif ieq v1 (gd s1 v8.toNat 0) then
      some (v8, ())
    else
      kx s1 v1 v7 (iadd .i64 v8 1)
  else
    Q40_K1 N
def Q40_L1 (N fu_ : Nat) (s1 : List Int) (v1 : Int) (v7 : Int) (v8 : Int) : Option Y6 :=
  iterK fu_ (fun kx (v_ : Y21 × (Unit)) => Q40_B1 N (fun s1 v1 v7 v8 => kx ((s1, v1, v7, v8, ()), ())) v_.1.1 v_.1.2.1 v_.1.2.2.1 v_.1.2.2.2.1) ((s1, v1, v7, v8, ()), ())
theorem Q40_L1_run (N : Nat) (s1 : Nat → (List Int)) (v1 : Nat → Int) (v7 : Nat → Int) (v8 : Nat → Int) (n_ : Nat) {res_ : Option Y6} (hstep_ : ∀ j_, j_ < n_ → ∀ kx_, Q40_B1 N kx_ (s1 j_) (v1 j_) (v7 j_) (v8 j_) = kx_ (s1 (j_ + 1)) (v1 (j_ + 1)) (v7 (j_ + 1)) (v8 (j_ + 1))) (hend_ : ∀ kx_, Q40_B1 N kx_ (s1 n_) (v1 n_) (v7 n_) (v8 n_) = res_) (fu_ : Nat) (hm_ : n_ < fu_) : Q40_L1 N fu_ (s1 0) (v1 0) (v7 0) (v8 0) = res_ := by
  exact loop_run (L := fun fu_ (x_ : (List Int) × Int × Int × Int) => Q40_L1 N fu_ x_.1 x_.2.1 x_.2.2.1 x_.2.2.2) (B := fun kx_ x_ => Q40_B1 N (fun s1 v1 v7 v8 => kx_ (s1, v1, v7, v8)) x_.1 x_.2.1 x_.2.2.1 x_.2.2.2) (fun _ _ => rfl) (fun j_ => (s1 j_, v1 j_, v7 j_, v8 j_)) n_ (fun j_ hi_ kx_ => hstep_ j_ hi_ _) (fun kx_ => hend_ _) fu_ hm_
def Q40 (N : Nat) (s : List Int) (v : Int) : Option Y6 :=
  Q40_L1 N N s v (len s) 0
def Q39 (N : Nat) (s : List Int) (v : Int) : Option Y4 :=
  (Q40 N s v).bind fun r =>
  some (ile 0 r.1, ())
def Q9_K1 (N : Nat) (kx : (List Int) → Int → (List Int) → Int → Int → (List Int) → Option Y12) (periods3 : List Int) (next2 : Int) (need1 : Int) (v152 : List Int) (v162 : Int) (v172 : Int) (plan2 : List Int) : Option Y12 :=
  bif ieq next2 0 then
    bif ilt 0 need1 then
      some (([], false), ())
    else
      kx periods3 next2 v152 v162 (iadd .i64 v172 1) plan2
  else
    chk (inB (isub .i64 next2 1) periods3.length) <|
    chk (inB (gd periods3 (isub .i64 next2 1).toNat 0) plan2.length) <|
    chk (inB (gd periods3 (isub .i64 next2 1).toNat 0) plan2.length) <|
    kx periods3 next2 v152 v162 (iadd .i64 v172 1) (List.set plan2 (gd periods3 (isub .i64 next2 1).toNat 0).toNat (iadd .i64 (gd plan2 (gd periods3 (isub .i64 next2 1).toNat 0).toNat 0) need1))
def Q9_K2 (N : Nat) (kx : (List Int) → Int → (List Int) → Int → Int → (List Int) → Option Y12) (periods2 : List Int) (next1 : Int) (need : Int) (v151 : List Int) (v161 : Int) (v171 : Int) (v33 : Bool) (plan1 : List Int) : Option Y12 :=
  bif v33 then
    Q9_K1 N kx periods2 (iadd .i64 next1 1) need v151 v161 v171 plan1
  else
    Q9_K1 N kx periods2 next1 need v151 v161 v171 plan1
def Q9_K3 (N : Nat) (plan3 : List Int) : Option Y12 :=
  some ((plan3, true), ())
def Q9_B1 (N : Nat) (kx : (List Int) → Int → (List Int) → Int → Int → (List Int) → Option Y12) (periods1 : List Int) (next : Int) (v15 : List Int) (v16 : Int) (v17 : Int) (plan : List Int) : Option Y12 :=
  bif ilt v17 v16 then
    chk (inB v17 v15.length) <|
    bif ilt next (len periods1) then
      chk (inB next periods1.length) <|
      Q9_K2 N kx periods1 next (gd v15 v17.toNat 0) v15 v16 v17 (ieq (gd periods1 next.toNat 0) v17) plan
    else
      Q9_K2 N kx periods1 next (gd v15 v17.toNat 0) v15 v16 v17 false plan
  else
    Q9_K3 N plan
def Q9_L1 (N fu_ : Nat) (periods1 : List Int) (next : Int) (v15 : List Int) (v16 : Int) (v17 : Int) (plan : List Int) : Option Y12 :=
  iterK fu_ (fun kx (v_ : ((List Int) × Int × (List Int) × Int × Int × Unit) × Y7) => Q9_B1 N (fun periods1 next v15 v16 v17 plan => kx ((periods1, next, v15, v16, v17, ()), (plan, ()))) v_.1.1 v_.1.2.1 v_.1.2.2.1 v_.1.2.2.2.1 v_.1.2.2.2.2.1 v_.2.1) ((periods1, next, v15, v16, v17, ()), (plan, ()))
theorem Q9_L1_run (N : Nat) (periods1 : Nat → (List Int)) (next : Nat → Int) (v15 : Nat → (List Int)) (v16 : Nat → Int) (v17 : Nat → Int) (plan : Nat → (List Int)) (n_ : Nat) {res_ : Option Y12} (hstep_ : ∀ j_, j_ < n_ → ∀ kx_, Q9_B1 N kx_ (periods1 j_) (next j_) (v15 j_) (v16 j_) (v17 j_) (plan j_) = kx_ (periods1 (j_ + 1)) (next (j_ + 1)) (v15 (j_ + 1)) (v16 (j_ + 1)) (v17 (j_ + 1)) (plan (j_ + 1))) (hend_ : ∀ kx_, Q9_B1 N kx_ (periods1 n_) (next n_) (v15 n_) (v16 n_) (v17 n_) (plan n_) = res_) (fu_ : Nat) (hm_ : n_ < fu_) : Q9_L1 N fu_ (periods1 0) (next 0) (v15 0) (v16 0) (v17 0) (plan 0) = res_ := by
  exact loop_run (L := fun fu_ (x_ : (List Int) × Int × (List Int) × Int × Int × (List Int)) => Q9_L1 N fu_ x_.1 x_.2.1 x_.2.2.1 x_.2.2.2.1 x_.2.2.2.2.1 x_.2.2.2.2.2) (B := fun kx_ x_ => Q9_B1 N (fun periods1 next v15 v16 v17 plan => kx_ (periods1, next, v15, v16, v17, plan)) x_.1 x_.2.1 x_.2.2.1 x_.2.2.2.1 x_.2.2.2.2.1 x_.2.2.2.2.2) (fun _ _ => rfl) (fun j_ => (periods1 j_, next j_, v15 j_, v16 j_, v17 j_, plan j_)) n_ (fun j_ hi_ kx_ => hstep_ j_ hi_ _) (fun kx_ => hend_ _) fu_ hm_
def Q9 (N : Nat) (c : (List Int) × (List Int) × (List Int) × (List Int)) (periods : List Int) : Option Y12 :=
  chk (mkB (len c.1) 8) <|
  Q9_L1 N N periods 0 c.1 (len c.1) 0 (List.replicate (len c.1).toNat 0)
def Q14_K1 (N : Nat) (out1 : List (List Int)) : Option Y3 :=
  some ((out1, true), ())
def Q14_B1 (N : Nat) (kx : Y1 → Int → Int → Y0 → Y1 → Option Y3) (v12 : List (List Int)) (v13 : Int) (v14 : Int) (c1 : (List Int) × (List Int) × (List Int)) (out : List (List Int)) : Option Y3 :=
  bif ilt v14 v13 then
    chk (inB v14 v12.length) <|
    (Q22 N c1.1 0 0).bind fun r =>
    (Q9 N r.1 (gd v12 v14.toNat [])).bind fun r1 =>
    bif !r1.1.2 then
      some (([], false), ())
    else
      chk (fitB (out.length + 1) 24) <|
      kx v12 v13 (iadd .i64 v14 1) c1 (out ++ [r1.1.1])
  else
    Q14_K1 N out
def Q14_L1 (N fu_ : Nat) (v12 : List (List Int)) (v13 : Int) (v14 : Int) (c1 : (List Int) × (List Int) × (List Int)) (out : List (List Int)) : Option Y3 :=
  iterK fu_ (fun kx (v_ : (Y1 × Int × Int × Unit) × Y18) => Q14_B1 N (fun v12 v13 v14 c1 out => kx ((v12, v13, v14, ()), (c1, out, ()))) v_.1.1 v_.1.2.1 v_.1.2.2.1 v_.2.1 v_.2.2.1) ((v12, v13, v14, ()), (c1, out, ()))
theorem Q14_L1_run (N : Nat) (v12 : Nat → Y1) (v13 : Nat → Int) (v14 : Nat → Int) (c1 : Nat → Y0) (out : Nat → Y1) (n_ : Nat) {res_ : Option Y3} (hstep_ : ∀ j_, j_ < n_ → ∀ kx_, Q14_B1 N kx_ (v12 j_) (v13 j_) (v14 j_) (c1 j_) (out j_) = kx_ (v12 (j_ + 1)) (v13 (j_ + 1)) (v14 (j_ + 1)) (c1 (j_ + 1)) (out (j_ + 1))) (hend_ : ∀ kx_, Q14_B1 N kx_ (v12 n_) (v13 n_) (v14 n_) (c1 n_) (out n_) = res_) (fu_ : Nat) (hm_ : n_ < fu_) : Q14_L1 N fu_ (v12 0) (v13 0) (v14 0) (c1 0) (out 0) = res_ := by
  exact loop_run (L := fun fu_ (x_ : Y1 × Int × Int × Y0 × Y1) => Q14_L1 N fu_ x_.1 x_.2.1 x_.2.2.1 x_.2.2.2.1 x_.2.2.2.2) (B := fun kx_ x_ => Q14_B1 N (fun v12 v13 v14 c1 out => kx_ (v12, v13, v14, c1, out)) x_.1 x_.2.1 x_.2.2.1 x_.2.2.2.1 x_.2.2.2.2) (fun _ _ => rfl) (fun j_ => (v12 j_, v13 j_, v14 j_, c1 j_, out j_)) n_ (fun j_ hi_ kx_ => hstep_ j_ hi_ _) (fun kx_ => hend_ _) fu_ hm_
def Q14 (N : Nat) (c : (List Int) × (List Int) × (List Int)) (periods : List (List Int)) : Option Y3 :=
  Q14_L1 N N periods (len periods) 0 c []
def Q18_K1 (N : Nat) (kx : Y1 → Y1 → Int → Int → Y0 → Option Y3) (periods3 : List (List Int)) (v212 : List (List Int)) (v222 : Int) (v232 : Int) (c3 : (List Int) × (List Int) × (List Int)) : Option Y3 :=
  kx periods3 v212 v222 (iadd .i64 v232 1) c3
def Q18_B1 (N : Nat) (kx : Y1 → Y1 → Int → Int → Y0 → Option Y3) (kx1 : Y1 → (List Int) → Y1 → Int → Int → (List Int) → Int → Int → Y0 → Option Y3) (periods2 : List (List Int)) (list : List Int) (v211 : List (List Int)) (v221 : Int) (v231 : Int) (v40 : List Int) (v41 : Int) (v42 : Int) (c2 : (List Int) × (List Int) × (List Int)) : Option Y3 :=
  bif ilt v42 v41 then
    chk (inB v42 v40.length) <|
    (Q39 N list (gd v40 v42.toNat 0)).bind fun r3 =>
    bif !r3.1 then
      some (([], false), ())
    else
      kx1 periods2 list v211 v221 v231 v40 v41 (iadd .i64 v42 1) c2
  else
    Q18_K1 N kx periods2 v211 v221 v231 c2
def Q18_L1 (N fu_ : Nat) (kx : Y1 → Y1 → Int → Int → Y0 → Option Y3) (periods2 : List (List Int)) (list : List Int) (v211 : List (List Int)) (v221 : Int) (v231 : Int) (v40 : List Int) (v41 : Int) (v42 : Int) (c2 : (List Int) × (List Int) × (List Int)) : Option Y3 :=
  iterK fu_ (fun kx1 (v_ : (Y1 × (List Int) × Y1 × Int × Int × (List Int) × Int × Int × Unit) × (Y0 × Unit)) => Q18_B1 N kx (fun periods2 list v211 v221 v231 v40 v41 v42 c2 => kx1 ((periods2, list, v211, v221, v231, v40, v41, v42, ()), (c2, ()))) v_.1.1 v_.1.2.1 v_.1.2.2.1 v_.1.2.2.2.1 v_.1.2.2.2.2.1 v_.1.2.2.2.2.2.1 v_.1.2.2.2.2.2.2.1 v_.1.2.2.2.2.2.2.2.1 v_.2.1) ((periods2, list, v211, v221, v231, v40, v41, v42, ()), (c2, ()))
theorem Q18_L1_run (N : Nat) (kx : Y1 → Y1 → Int → Int → Y0 → Option Y3) (periods2 : Nat → Y1) (list : Nat → (List Int)) (v211 : Nat → Y1) (v221 : Nat → Int) (v231 : Nat → Int) (v40 : Nat → (List Int)) (v41 : Nat → Int) (v42 : Nat → Int) (c2 : Nat → Y0) (n_ : Nat) {res_ : Option Y3} (hstep_ : ∀ j_, j_ < n_ → ∀ kx_, Q18_B1 N kx kx_ (periods2 j_) (list j_) (v211 j_) (v221 j_) (v231 j_) (v40 j_) (v41 j_) (v42 j_) (c2 j_) = kx_ (periods2 (j_ + 1)) (list (j_ + 1)) (v211 (j_ + 1)) (v221 (j_ + 1)) (v231 (j_ + 1)) (v40 (j_ + 1)) (v41 (j_ + 1)) (v42 (j_ + 1)) (c2 (j_ + 1))) (hend_ : ∀ kx_, Q18_B1 N kx kx_ (periods2 n_) (list n_) (v211 n_) (v221 n_) (v231 n_) (v40 n_) (v41 n_) (v42 n_) (c2 n_) = res_) (fu_ : Nat) (hm_ : n_ < fu_) : Q18_L1 N fu_ kx (periods2 0) (list 0) (v211 0) (v221 0) (v231 0) (v40 0) (v41 0) (v42 0) (c2 0) = res_ := by
  exact loop_run (L := fun fu_ (x_ : Y1 × (List Int) × Y1 × Int × Int × (List Int) × Int × Int × Y0) => Q18_L1 N fu_ kx x_.1 x_.2.1 x_.2.2.1 x_.2.2.2.1 x_.2.2.2.2.1 x_.2.2.2.2.2.1 x_.2.2.2.2.2.2.1 x_.2.2.2.2.2.2.2.1 x_.2.2.2.2.2.2.2.2) (B := fun kx_ x_ => Q18_B1 N kx (fun periods2 list v211 v221 v231 v40 v41 v42 c2 => kx_ (periods2, list, v211, v221, v231, v40, v41, v42, c2)) x_.1 x_.2.1 x_.2.2.1 x_.2.2.2.1 x_.2.2.2.2.1 x_.2.2.2.2.2.1 x_.2.2.2.2.2.2.1 x_.2.2.2.2.2.2.2.1 x_.2.2.2.2.2.2.2.2) (fun _ _ => rfl) (fun j_ => (periods2 j_, list j_, v211 j_, v221 j_, v231 j_, v40 j_, v41 j_, v42 j_, c2 j_)) n_ (fun j_ hi_ kx_ => hstep_ j_ hi_ _) (fun kx_ => hend_ _) fu_ hm_
def Q18_K2 (N : Nat) (periods4 : List (List Int)) (c4 : (List Int) × (List Int) × (List Int)) : Option Y3 :=
  (Q14 N c4 periods4).bind fun r4 =>
  some ((r4.1.1, r4.1.2), ())
def Q18_B2 (N : Nat) (kx : Y1 → Y1 → Int → Int → Y0 → Option Y3) (periods1 : List (List Int)) (v21 : List (List Int)) (v22 : Int) (v23 : Int) (c1 : (List Int) × (List Int) × (List Int)) : Option Y3 :=
  bif ilt v23 v22 then
    chk (inB v23 v21.length) <|
    (Q22 N c1.1 0 0).bind fun r1 =>
    (Q5 N r1.1 (gd v21 v23.toNat [])).bind fun r2 =>
    bif !r2.1 then
      some (([], false), ())
    else
      bif ilt 0 v23 then
        chk (inB (isub .i64 v23 1) periods1.length) <|
        Q18_L1 N N kx periods1 (gd v21 v23.toNat []) v21 v22 v23 (gd periods1 (isub .i64 v23 1).toNat []) (len (gd periods1 (isub .i64 v23 1).toNat [])) 0 c1
      else
        kx periods1 v21 v22 (iadd .i64 v23 1) c1
  else
    Q18_K2 N periods1 c1
def Q18_L2 (N fu_ : Nat) (periods1 : List (List Int)) (v21 : List (List Int)) (v22 : Int) (v23 : Int) (c1 : (List Int) × (List Int) × (List Int)) : Option Y3 :=
  iterK fu_ (fun kx (v_ : (Y1 × Y1 × Int × Int × Unit) × (Y0 × Unit)) => Q18_B2 N (fun periods1 v21 v22 v23 c1 => kx ((periods1, v21, v22, v23, ()), (c1, ()))) v_.1.1 v_.1.2.1 v_.1.2.2.1 v_.1.2.2.2.1 v_.2.1) ((periods1, v21, v22, v23, ()), (c1, ()))
theorem Q18_L2_run (N : Nat) (periods1 : Nat → Y1) (v21 : Nat → Y1) (v22 : Nat → Int) (v23 : Nat → Int) (c1 : Nat → Y0) (n_ : Nat) {res_ : Option Y3} (hstep_ : ∀ j_, j_ < n_ → ∀ kx_, Q18_B2 N kx_ (periods1 j_) (v21 j_) (v22 j_) (v23 j_) (c1 j_) = kx_ (periods1 (j_ + 1)) (v21 (j_ + 1)) (v22 (j_ + 1)) (v23 (j_ + 1)) (c1 (j_ + 1))) (hend_ : ∀ kx_, Q18_B2 N kx_ (periods1 n_) (v21 n_) (v22 n_) (v23 n_) (c1 n_) = res_) (fu_ : Nat) (hm_ : n_ < fu_) : Q18_L2 N fu_ (periods1 0) (v21 0) (v22 0) (v23 0) (c1 0) = res_ := by
  exact loop_run (L := fun fu_ (x_ : Y1 × Y1 × Int × Int × Y0) => Q18_L2 N fu_ x_.1 x_.2.1 x_.2.2.1 x_.2.2.2.1 x_.2.2.2.2) (B := fun kx_ x_ => Q18_B2 N (fun periods1 v21 v22 v23 c1 => kx_ (periods1, v21, v22, v23, c1)) x_.1 x_.2.1 x_.2.2.1 x_.2.2.2.1 x_.2.2.2.2) (fun _ _ => rfl) (fun j_ => (periods1 j_, v21 j_, v22 j_, v23 j_, c1 j_)) n_ (fun j_ hi_ kx_ => hstep_ j_ hi_ _) (fun kx_ => hend_ _) fu_ hm_
def Q18 (N : Nat) (c : (List Int) × (List Int) × (List Int)) (periods : List (List Int)) : Option Y3 :=
  (Q16 N c).bind fun r =>
  bif !r.1 then
    some (([], false), ())
  else
    bif ine (len periods) (len c.2.1) then
      some (([], false), ())
    else
      Q18_L2 N N periods periods (len periods) 0 c
def Q48 (N : Nat) (x : Int) (a : Int) (b : Int) : Option Y4 :=
  bif ile a x then
    some (ile x b, ())
  else
    some (false, ())
def Q61_K1 (N : Nat) (row2 : List Int) (n2 : Int) : Option Y4 :=
  some (ieq (len row2) n2, ())
def Q61_B1 (N : Nat) (kx : (List Int) → Int → Int → Int → Option Y4) (row1 : List Int) (n1 : Int) (most1 : Int) (i : Int) : Option Y4 :=
  bif ilt i (len row1) then
    chk (inB i row1.length) <|
    (Q48 N (gd row1 i.toNat 0) 0 most1).bind fun r =>
    bif !r.1 then
      some (false, ())
    else
      kx row1 n1 most1 (iadd .i64 i 1)
  else
    Q61_K1 N row1 n1
def Q61_L1 (N fu_ : Nat) (row1 : List Int) (n1 : Int) (most1 : Int) (i : Int) : Option Y4 :=
  iterK fu_ (fun kx (v_ : Y21 × (Unit)) => Q61_B1 N (fun row1 n1 most1 i => kx ((row1, n1, most1, i, ()), ())) v_.1.1 v_.1.2.1 v_.1.2.2.1 v_.1.2.2.2.1) ((row1, n1, most1, i, ()), ())
theorem Q61_L1_run (N : Nat) (row1 : Nat → (List Int)) (n1 : Nat → Int) (most1 : Nat → Int) (i : Nat → Int) (n_ : Nat) {res_ : Option Y4} (hstep_ : ∀ j_, j_ < n_ → ∀ kx_, Q61_B1 N kx_ (row1 j_) (n1 j_) (most1 j_) (i j_) = kx_ (row1 (j_ + 1)) (n1 (j_ + 1)) (most1 (j_ + 1)) (i (j_ + 1))) (hend_ : ∀ kx_, Q61_B1 N kx_ (row1 n_) (n1 n_) (most1 n_) (i n_) = res_) (fu_ : Nat) (hm_ : n_ < fu_) : Q61_L1 N fu_ (row1 0) (n1 0) (most1 0) (i 0) = res_ := by
  exact loop_run (L := fun fu_ (x_ : (List Int) × Int × Int × Int) => Q61_L1 N fu_ x_.1 x_.2.1 x_.2.2.1 x_.2.2.2) (B := fun kx_ x_ => Q61_B1 N (fun row1 n1 most1 i => kx_ (row1, n1, most1, i)) x_.1 x_.2.1 x_.2.2.1 x_.2.2.2) (fun _ _ => rfl) (fun j_ => (row1 j_, n1 j_, most1 j_, i j_)) n_ (fun j_ hi_ kx_ => hstep_ j_ hi_ _) (fun kx_ => hend_ _) fu_ hm_
def Q61 (N : Nat) (row : List Int) (n : Int) (most : Int) : Option Y4 :=
  Q61_L1 N N row n most 0
def Q69_K1 (N : Nat) : Option Y4 :=
  some (true, ())
def Q69_B1 (N : Nat) (kx : Int → Y0 → Option Y4) (s : Int) (c1 : (List Int) × (List Int) × (List Int)) : Option Y4 :=
  bif ilt s (len c1.2.2) then
    chk (inB s c1.2.2.length) <|
    chk (inB (isub .i64 s 1) c1.2.2.length) <|
    bif ilt (gd c1.2.2 s.toNat 0) (gd c1.2.2 (isub .i64 s 1).toNat 0) then
      some (false, ())
    else
      kx (iadd .i64 s 1) c1
  else
    Q69_K1 N
def Q69_L1 (N fu_ : Nat) (s : Int) (c1 : (List Int) × (List Int) × (List Int)) : Option Y4 :=
  iterK fu_ (fun kx (v_ : Y6 × (Y0 × Unit)) => Q69_B1 N (fun s c1 => kx ((s, ()), (c1, ()))) v_.1.1 v_.2.1) ((s, ()), (c1, ()))
theorem Q69_L1_run (N : Nat) (s : Nat → Int) (c1 : Nat → Y0) (n_ : Nat) {res_ : Option Y4} (hstep_ : ∀ j_, j_ < n_ → ∀ kx_, Q69_B1 N kx_ (s j_) (c1 j_) = kx_ (s (j_ + 1)) (c1 (j_ + 1))) (hend_ : ∀ kx_, Q69_B1 N kx_ (s n_) (c1 n_) = res_) (fu_ : Nat) (hm_ : n_ < fu_) : Q69_L1 N fu_ (s 0) (c1 0) = res_ := by
  exact loop_run (L := fun fu_ (x_ : Int × Y0) => Q69_L1 N fu_ x_.1 x_.2) (B := fun kx_ x_ => Q69_B1 N (fun s c1 => kx_ (s, c1)) x_.1 x_.2) (fun _ _ => rfl) (fun j_ => (s j_, c1 j_)) n_ (fun j_ hi_ kx_ => hstep_ j_ hi_ _) (fun kx_ => hend_ _) fu_ hm_
def Q69 (N : Nat) (c : (List Int) × (List Int) × (List Int)) : Option Y4 :=
  bif ilt 6 (len c.1) then
    some (false, ())
  else
    (Q61 N c.1 (len c.1) 20).bind fun r =>
    bif !r.1 then
      some (false, ())
    else
      (Q48 N (len c.2.1) 1 3).bind fun r1 =>
      bif !r1.1 then
        some (false, ())
      else
        (Q61 N c.2.1 (len c.2.1) 99).bind fun r2 =>
        bif !r2.1 then
          some (false, ())
        else
          (Q61 N c.2.2 (len c.2.1) 9).bind fun r3 =>
          bif !r3.1 then
            some (false, ())
          else
            Q69_L1 N N 1 c
def Q52_K1 (N : Nat) : Option Y4 :=
  some (true, ())
def Q52_B1 (N : Nat) (kx : (List Int) → Int → Int → Int → Option Y4) (l1 : List Int) (lo1 : Int) (hi1 : Int) (i : Int) : Option Y4 :=
  bif ilt i (len l1) then
    chk (inB i l1.length) <|
    (Q48 N (gd l1 i.toNat 0) lo1 hi1).bind fun r =>
    bif !r.1 then
      some (false, ())
    else
      bif ilt 0 i then
        chk (inB (isub .i64 i 1) l1.length) <|
        chk (inB i l1.length) <|
        bif ile (gd l1 i.toNat 0) (gd l1 (isub .i64 i 1).toNat 0) then
          some (false, ())
        else
          kx l1 lo1 hi1 (iadd .i64 i 1)
      else
        kx l1 lo1 hi1 (iadd .i64 i 1)
  else
    Q52_K1 N
def Q52_L1 (N fu_ : Nat) (l1 : List Int) (lo1 : Int) (hi1 : Int) (i : Int) : Option Y4 :=
  iterK fu_ (fun kx (v_ : Y21 × (Unit)) => Q52_B1 N (fun l1 lo1 hi1 i => kx ((l1, lo1, hi1, i, ()), ())) v_.1.1 v_.1.2.1 v_.1.2.2.1 v_.1.2.2.2.1) ((l1, lo1, hi1, i, ()), ())
theorem Q52_L1_run (N : Nat) (l1 : Nat → (List Int)) (lo1 : Nat → Int) (hi1 : Nat → Int) (i : Nat → Int) (n_ : Nat) {res_ : Option Y4} (hstep_ : ∀ j_, j_ < n_ → ∀ kx_, Q52_B1 N kx_ (l1 j_) (lo1 j_) (hi1 j_) (i j_) = kx_ (l1 (j_ + 1)) (lo1 (j_ + 1)) (hi1 (j_ + 1)) (i (j_ + 1))) (hend_ : ∀ kx_, Q52_B1 N kx_ (l1 n_) (lo1 n_) (hi1 n_) (i n_) = res_) (fu_ : Nat) (hm_ : n_ < fu_) : Q52_L1 N fu_ (l1 0) (lo1 0) (hi1 0) (i 0) = res_ := by
  exact loop_run (L := fun fu_ (x_ : (List Int) × Int × Int × Int) => Q52_L1 N fu_ x_.1 x_.2.1 x_.2.2.1 x_.2.2.2) (B := fun kx_ x_ => Q52_B1 N (fun l1 lo1 hi1 i => kx_ (l1, lo1, hi1, i)) x_.1 x_.2.1 x_.2.2.1 x_.2.2.2) (fun _ _ => rfl) (fun j_ => (l1 j_, lo1 j_, hi1 j_, i j_)) n_ (fun j_ hi_ kx_ => hstep_ j_ hi_ _) (fun kx_ => hend_ _) fu_ hm_
def Q52 (N : Nat) (l : List Int) (lo : Int) (hi : Int) : Option Y4 :=
  Q52_L1 N N l lo hi 0
def Q77_K1 (N : Nat) : Option Y4 :=
  some (true, ())
def Q77_B1 (N : Nat) (kx : (List Int) → (List Int) → Int → Option Y4) (a1 : List Int) (b1 : List Int) (i : Int) : Option Y4 :=
  bif ilt i (len a1) then
    chk (inB i a1.length) <|
    (Q47 N b1 (gd a1 i.toNat 0)).bind fun r =>
    bif !r.1 then
      some (false, ())
    else
      kx a1 b1 (iadd .i64 i 1)
  else
    Q77_K1 N
def Q77_L1 (N fu_ : Nat) (a1 : List Int) (b1 : List Int) (i : Int) : Option Y4 :=
  iterK fu_ (fun kx (v_ : Y15 × (Unit)) => Q77_B1 N (fun a1 b1 i => kx ((a1, b1, i, ()), ())) v_.1.1 v_.1.2.1 v_.1.2.2.1) ((a1, b1, i, ()), ())
theorem Q77_L1_run (N : Nat) (a1 : Nat → (List Int)) (b1 : Nat → (List Int)) (i : Nat → Int) (n_ : Nat) {res_ : Option Y4} (hstep_ : ∀ j_, j_ < n_ → ∀ kx_, Q77_B1 N kx_ (a1 j_) (b1 j_) (i j_) = kx_ (a1 (j_ + 1)) (b1 (j_ + 1)) (i (j_ + 1))) (hend_ : ∀ kx_, Q77_B1 N kx_ (a1 n_) (b1 n_) (i n_) = res_) (fu_ : Nat) (hm_ : n_ < fu_) : Q77_L1 N fu_ (a1 0) (b1 0) (i 0) = res_ := by
  exact loop_run (L := fun fu_ (x_ : (List Int) × (List Int) × Int) => Q77_L1 N fu_ x_.1 x_.2.1 x_.2.2) (B := fun kx_ x_ => Q77_B1 N (fun a1 b1 i => kx_ (a1, b1, i)) x_.1 x_.2.1 x_.2.2) (fun _ _ => rfl) (fun j_ => (a1 j_, b1 j_, i j_)) n_ (fun j_ hi_ kx_ => hstep_ j_ hi_ _) (fun kx_ => hend_ _) fu_ hm_
def Q77 (N : Nat) (a : List Int) (b : List Int) : Option Y4 :=
  Q77_L1 N N a b 0
def Q73_K1 (N : Nat) (periods2 : List (List Int)) (c2 : (List Int) × (List Int) × (List Int)) : Option Y4 :=
  some (ieq (len periods2) (len c2.2.1), ())
def Q73_B1 (N : Nat) (kx : Y1 → Int → Y0 → Option Y4) (periods1 : List (List Int)) (s : Int) (c1 : (List Int) × (List Int) × (List Int)) : Option Y4 :=
  bif ilt s (len periods1) then
    chk (inB s periods1.length) <|
    (Q52 N (gd periods1 s.toNat []) 0 (isub .i64 (len c1.1) 1)).bind fun r =>
    bif !r.1 then
      some (false, ())
    else
      bif ilt 0 s then
        chk (inB (isub .i64 s 1) periods1.length) <|
        chk (inB s periods1.length) <|
        (Q77 N (gd periods1 (isub .i64 s 1).toNat []) (gd periods1 s.toNat [])).bind fun r1 =>
        bif !r1.1 then
          some (false, ())
        else
          kx periods1 (iadd .i64 s 1) c1
      else
        kx periods1 (iadd .i64 s 1) c1
  else
    Q73_K1 N periods1 c1
def Q73_L1 (N fu_ : Nat) (periods1 : List (List Int)) (s : Int) (c1 : (List Int) × (List Int) × (List Int)) : Option Y4 :=
  iterK fu_ (fun kx (v_ : (Y1 × Int × Unit) × (Y0 × Unit)) => Q73_B1 N (fun periods1 s c1 => kx ((periods1, s, ()), (c1, ()))) v_.1.1 v_.1.2.1 v_.2.1) ((periods1, s, ()), (c1, ()))
theorem Q73_L1_run (N : Nat) (periods1 : Nat → Y1) (s : Nat → Int) (c1 : Nat → Y0) (n_ : Nat) {res_ : Option Y4} (hstep_ : ∀ j_, j_ < n_ → ∀ kx_, Q73_B1 N kx_ (periods1 j_) (s j_) (c1 j_) = kx_ (periods1 (j_ + 1)) (s (j_ + 1)) (c1 (j_ + 1))) (hend_ : ∀ kx_, Q73_B1 N kx_ (periods1 n_) (s n_) (c1 n_) = res_) (fu_ : Nat) (hm_ : n_ < fu_) : Q73_L1 N fu_ (periods1 0) (s 0) (c1 0) = res_ := by
  exact loop_run (L := fun fu_ (x_ : Y1 × Int × Y0) => Q73_L1 N fu_ x_.1 x_.2.1 x_.2.2) (B := fun kx_ x_ => Q73_B1 N (fun periods1 s c1 => kx_ (periods1, s, c1)) x_.1 x_.2.1 x_.2.2) (fun _ _ => rfl) (fun j_ => (periods1 j_, s j_, c1 j_)) n_ (fun j_ hi_ kx_ => hstep_ j_ hi_ _) (fun kx_ => hend_ _) fu_ hm_
def Q73 (N : Nat) (c : (List Int) × (List Int) × (List Int)) (periods : List (List Int)) : Option Y4 :=
  Q73_L1 N N periods 0 c
def Q67_K1 (N : Nat) : Option Y4 :=
  some (true, ())
def Q67_B1 (N : Nat) (kx : (List Int) → (List Int) → Int → Option Y4) (need1 : List Int) (periods1 : List Int) (t : Int) : Option Y4 :=
  bif ilt t (len need1) then
    chk (inB t need1.length) <|
    bif ilt 0 (gd need1 t.toNat 0) then
      bif ilt 0 (len periods1) then
        chk (inB 0 periods1.length) <|
        some (ile (gd periods1 0 0) t, ())
      else
        some (false, ())
    else
      kx need1 periods1 (iadd .i64 t 1)
  else
    Q67_K1 N
def Q67_L1 (N fu_ : Nat) (need1 : List Int) (periods1 : List Int) (t : Int) : Option Y4 :=
  iterK fu_ (fun kx (v_ : Y15 × (Unit)) => Q67_B1 N (fun need1 periods1 t => kx ((need1, periods1, t, ()), ())) v_.1.1 v_.1.2.1 v_.1.2.2.1) ((need1, periods1, t, ()), ())
theorem Q67_L1_run (N : Nat) (need1 : Nat → (List Int)) (periods1 : Nat → (List Int)) (t : Nat → Int) (n_ : Nat) {res_ : Option Y4} (hstep_ : ∀ j_, j_ < n_ → ∀ kx_, Q67_B1 N kx_ (need1 j_) (periods1 j_) (t j_) = kx_ (need1 (j_ + 1)) (periods1 (j_ + 1)) (t (j_ + 1))) (hend_ : ∀ kx_, Q67_B1 N kx_ (need1 n_) (periods1 n_) (t n_) = res_) (fu_ : Nat) (hm_ : n_ < fu_) : Q67_L1 N fu_ (need1 0) (periods1 0) (t 0) = res_ := by
  exact loop_run (L := fun fu_ (x_ : (List Int) × (List Int) × Int) => Q67_L1 N fu_ x_.1 x_.2.1 x_.2.2) (B := fun kx_ x_ => Q67_B1 N (fun need1 periods1 t => kx_ (need1, periods1, t)) x_.1 x_.2.1 x_.2.2) (fun _ _ => rfl) (fun j_ => (need1 j_, periods1 j_, t j_)) n_ (fun j_ hi_ kx_ => hstep_ j_ hi_ _) (fun kx_ => hend_ _) fu_ hm_
def Q67 (N : Nat) (need : List Int) (periods : List Int) : Option Y4 :=
  Q67_L1 N N need periods 0
def Q63_K1 (N : Nat) (sum1 : Int) : Option Y6 :=
  some (sum1, ())
def Q63_B1 (N : Nat) (kx : (List Int) → Int → Int → Option Y6) (list1 : List Int) (sum : Int) (i : Int) : Option Y6 :=
  bif ilt i (len list1) then
    chk (inB i list1.length) <|
    kx list1 (iadd .i64 sum (gd list1 i.toNat 0)) (iadd .i64 i 1)
  else
    Q63_K1 N sum
def Q63_L1 (N fu_ : Nat) (list1 : List Int) (sum : Int) (i : Int) : Option Y6 :=
  iterK fu_ (fun kx (v_ : ((List Int) × Int × Int × Unit) × (Unit)) => Q63_B1 N (fun list1 sum i => kx ((list1, sum, i, ()), ())) v_.1.1 v_.1.2.1 v_.1.2.2.1) ((list1, sum, i, ()), ())
theorem Q63_L1_run (N : Nat) (list1 : Nat → (List Int)) (sum : Nat → Int) (i : Nat → Int) (n_ : Nat) {res_ : Option Y6} (hstep_ : ∀ j_, j_ < n_ → ∀ kx_, Q63_B1 N kx_ (list1 j_) (sum j_) (i j_) = kx_ (list1 (j_ + 1)) (sum (j_ + 1)) (i (j_ + 1))) (hend_ : ∀ kx_, Q63_B1 N kx_ (list1 n_) (sum n_) (i n_) = res_) (fu_ : Nat) (hm_ : n_ < fu_) : Q63_L1 N fu_ (list1 0) (sum 0) (i 0) = res_ := by
  exact loop_run (L := fun fu_ (x_ : (List Int) × Int × Int) => Q63_L1 N fu_ x_.1 x_.2.1 x_.2.2) (B := fun kx_ x_ => Q63_B1 N (fun list1 sum i => kx_ (list1, sum, i)) x_.1 x_.2.1 x_.2.2) (fun _ _ => rfl) (fun j_ => (list1 j_, sum j_, i j_)) n_ (fun j_ hi_ kx_ => hstep_ j_ hi_ _) (fun kx_ => hend_ _) fu_ hm_
def Q63 (N : Nat) (list : List Int) : Option Y6 :=
  Q63_L1 N N list 0 0
def Q74_K1 (N : Nat) (kx : (List Int) → (List Int) → Int → (List Int) → Option Y7) (need2 : List Int) (periods2 : List Int) (i1 : Int) (endx : Int) (out1 : List Int) : Option Y7 :=
  chk (inB i1 periods2.length) <|
  chk (inB i1 periods2.length) <|
  chk (cutB (gd periods2 i1.toNat 0) endx need2.length) <|
  (Q63 N (cut need2 (gd periods2 i1.toNat 0) endx)).bind fun r =>
  chk (inB (gd periods2 i1.toNat 0) out1.length) <|
  kx need2 periods2 (iadd .i64 i1 1) (List.set out1 (gd periods2 i1.toNat 0).toNat r.1)
def Q74_K2 (N : Nat) (out2 : List Int) : Option Y7 :=
  some (out2, ())
def Q74_B1 (N : Nat) (kx : (List Int) → (List Int) → Int → (List Int) → Option Y7) (need1 : List Int) (periods1 : List Int) (i : Int) (out : List Int) : Option Y7 :=
  bif ilt i (len periods1) then
    bif ilt (iadd .i64 i 1) (len periods1) then
      chk (inB (iadd .i64 i 1) periods1.length) <|
      Q74_K1 N kx need1 periods1 i (gd periods1 (iadd .i64 i 1).toNat 0) out
    else
      Q74_K1 N kx need1 periods1 i (len need1) out
  else
    Q74_K2 N out
def Q74_L1 (N fu_ : Nat) (need1 : List Int) (periods1 : List Int) (i : Int) (out : List Int) : Option Y7 :=
  iterK fu_ (fun kx (v_ : Y15 × Y7) => Q74_B1 N (fun need1 periods1 i out => kx ((need1, periods1, i, ()), (out, ()))) v_.1.1 v_.1.2.1 v_.1.2.2.1 v_.2.1) ((need1, periods1, i, ()), (out, ()))
theorem Q74_L1_run (N : Nat) (need1 : Nat → (List Int)) (periods1 : Nat → (List Int)) (i : Nat → Int) (out : Nat → (List Int)) (n_ : Nat) {res_ : Option Y7} (hstep_ : ∀ j_, j_ < n_ → ∀ kx_, Q74_B1 N kx_ (need1 j_) (periods1 j_) (i j_) (out j_) = kx_ (need1 (j_ + 1)) (periods1 (j_ + 1)) (i (j_ + 1)) (out (j_ + 1))) (hend_ : ∀ kx_, Q74_B1 N kx_ (need1 n_) (periods1 n_) (i n_) (out n_) = res_) (fu_ : Nat) (hm_ : n_ < fu_) : Q74_L1 N fu_ (need1 0) (periods1 0) (i 0) (out 0) = res_ := by
  exact loop_run (L := fun fu_ (x_ : (List Int) × (List Int) × Int × (List Int)) => Q74_L1 N fu_ x_.1 x_.2.1 x_.2.2.1 x_.2.2.2) (B := fun kx_ x_ => Q74_B1 N (fun need1 periods1 i out => kx_ (need1, periods1, i, out)) x_.1 x_.2.1 x_.2.2.1 x_.2.2.2) (fun _ _ => rfl) (fun j_ => (need1 j_, periods1 j_, i j_, out j_)) n_ (fun j_ hi_ kx_ => hstep_ j_ hi_ _) (fun kx_ => hend_ _) fu_ hm_
def Q74 (N : Nat) (need : List Int) (periods : List Int) : Option Y7 :=
  chk (mkB (len need) 8) <|
  Q74_L1 N N need periods 0 (List.replicate (len need).toNat 0)
def Q45_K1 (N : Nat) (out1 : List (List Int)) : Option Y3 :=
  some ((out1, true), ())
def Q45_B1 (N : Nat) (kx : Y1 → Int → Y0 → Y1 → Option Y3) (periods1 : List (List Int)) (s : Int) (c1 : (List Int) × (List Int) × (List Int)) (out : List (List Int)) : Option Y3 :=
  bif ilt s (len periods1) then
    chk (inB s periods1.length) <|
    (Q67 N c1.1 (gd periods1 s.toNat [])).bind fun r2 =>
    bif !r2.1 then
      some (([], false), ())
    else
      chk (inB s periods1.length) <|
      (Q74 N c1.1 (gd periods1 s.toNat [])).bind fun r3 =>
      chk (fitB (out.length + 1) 24) <|
      kx periods1 (iadd .i64 s 1) c1 (out ++ [r3.1])
  else
    Q45_K1 N out
def Q45_L1 (N fu_ : Nat) (periods1 : List (List Int)) (s : Int) (c1 : (List Int) × (List Int) × (List Int)) (out : List (List Int)) : Option Y3 :=
  iterK fu_ (fun kx (v_ : (Y1 × Int × Unit) × Y18) => Q45_B1 N (fun periods1 s c1 out => kx ((periods1, s, ()), (c1, out, ()))) v_.1.1 v_.1.2.1 v_.2.1 v_.2.2.1) ((periods1, s, ()), (c1, out, ()))
theorem Q45_L1_run (N : Nat) (periods1 : Nat → Y1) (s : Nat → Int) (c1 : Nat → Y0) (out : Nat → Y1) (n_ : Nat) {res_ : Option Y3} (hstep_ : ∀ j_, j_ < n_ → ∀ kx_, Q45_B1 N kx_ (periods1 j_) (s j_) (c1 j_) (out j_) = kx_ (periods1 (j_ + 1)) (s (j_ + 1)) (c1 (j_ + 1)) (out (j_ + 1))) (hend_ : ∀ kx_, Q45_B1 N kx_ (periods1 n_) (s n_) (c1 n_) (out n_) = res_) (fu_ : Nat) (hm_ : n_ < fu_) : Q45_L1 N fu_ (periods1 0) (s 0) (c1 0) (out 0) = res_ := by
  exact loop_run (L := fun fu_ (x_ : Y1 × Int × Y0 × Y1) => Q45_L1 N fu_ x_.1 x_.2.1 x_.2.2.1 x_.2.2.2) (B := fun kx_ x_ => Q45_B1 N (fun periods1 s c1 out => kx_ (periods1, s, c1, out)) x_.1 x_.2.1 x_.2.2.1 x_.2.2.2) (fun _ _ => rfl) (fun j_ => (periods1 j_, s j_, c1 j_, out j_)) n_ (fun j_ hi_ kx_ => hstep_ j_ hi_ _) (fun kx_ => hend_ _) fu_ hm_
def Q45 (N : Nat) (c : (List Int) × (List Int) × (List Int)) (periods : List (List Int)) : Option Y3 :=
  (Q69 N c).bind fun r =>
  bif !r.1 then
    some (([], false), ())
  else
    (Q73 N c periods).bind fun r1 =>
    bif !r1.1 then
      some (([], false), ())
    else
      Q45_L1 N N periods 0 c []
def Q15_K1 (N : Nat) (kx : Y1 → Y1 → Int → Int → Y0 → Y1 → Option Y3) (plan4 : List (List Int)) (stock1 : Int) (v213 : List (List Int)) (v223 : Int) (v233 : Int) (v471 : List Int) (v481 : Int) (v501 : List Int) (v511 : Int) (v521 : Bool) (v551 : List Int) (v561 : Bool) (v571 : Bool) (v601 : List Int) (v611 : Bool) (v621 : Bool) (c4 : (List Int) × (List Int) × (List Int)) (out3 : List (List Int)) (row1 : List Int) : Option Y3 :=
  bif ine stock1 0 then
    some (([], false), ())
  else
    chk (fitB (out3.length + 1) 24) <|
    kx plan4 v213 v223 (iadd .i64 v233 1) c4 (out3 ++ [row1])
def Q15_B1 (N : Nat) (kx : Y1 → Y1 → Int → Int → Y0 → Y1 → Option Y3) (kx1 : Y1 → (List Int) → Int → Y1 → Int → Int → (List Int) → Int → (List Int) → Int → Bool → (List Int) → Bool → Bool → (List Int) → Bool → Bool → (List Int) → Int → Int → Y0 → Y1 → (List Int) → Option Y3) (plan3 : List (List Int)) (taken1 : List Int) (stock : Int) (v212 : List (List Int)) (v222 : Int) (v232 : Int) (v47 : List Int) (v48 : Int) (v50 : List Int) (v51 : Int) (v52 : Bool) (v55 : List Int) (v56 : Bool) (v57 : Bool) (v60 : List Int) (v61 : Bool) (v62 : Bool) (v65 : List Int) (v66 : Int) (v67 : Int) (c3 : (List Int) × (List Int) × (List Int)) (out2 : List (List Int)) (row : List Int) : Option Y3 :=
  bif ilt v67 v66 then
    chk (inB v67 v65.length) <|
    chk (inB v67 taken1.length) <|
    bif ilt (iadd .i64 stock (isub .i64 (gd v65 v67.toNat 0) (gd taken1 v67.toNat 0))) 0 then
      some (([], false), ())
    else
      chk (fitB (row.length + 1) 8) <|
      kx1 plan3 taken1 (iadd .i64 stock (isub .i64 (gd v65 v67.toNat 0) (gd taken1 v67.toNat 0))) v212 v222 v232 v47 v48 v50 v51 v52 v55 v56 v57 v60 v61 v62 v65 v66 (iadd .i64 v67 1) c3 out2 (row ++ [iadd .i64 stock (isub .i64 (gd v65 v67.toNat 0) (gd taken1 v67.toNat 0))])
  else
    Q15_K1 N kx plan3 stock v212 v222 v232 v47 v48 v50 v51 v52 v55 v56 v57 v60 v61 v62 c3 out2 row
def Q15_L1 (N fu_ : Nat) (kx : Y1 → Y1 → Int → Int → Y0 → Y1 → Option Y3) (plan3 : List (List Int)) (taken1 : List Int) (stock : Int) (v212 : List (List Int)) (v222 : Int) (v232 : Int) (v47 : List Int) (v48 : Int) (v50 : List Int) (v51 : Int) (v52 : Bool) (v55 : List Int) (v56 : Bool) (v57 : Bool) (v60 : List Int) (v61 : Bool) (v62 : Bool) (v65 : List Int) (v66 : Int) (v67 : Int) (c3 : (List Int) × (List Int) × (List Int)) (out2 : List (List Int)) (row : List Int) : Option Y3 :=
  iterK fu_ (fun kx1 (v_ : (Y1 × (List Int) × Int × Y1 × Int × Int × (List Int) × Int × (List Int) × Int × Bool × (List Int) × Bool × Bool × (List Int) × Bool × Bool × (List Int) × Int × Int × Unit) × (Y0 × Y1 × (List Int) × Unit)) => Q15_B1 N kx (fun plan3 taken1 stock v212 v222 v232 v47 v48 v50 v51 v52 v55 v56 v57 v60 v61 v62 v65 v66 v67 c3 out2 row => kx1 ((plan3, taken1, stock, v212, v222, v232, v47, v48, v50, v51, v52, v55, v56, v57, v60, v61, v62, v65, v66, v67, ()), (c3, out2, row, ()))) v_.1.1 v_.1.2.1 v_.1.2.2.1 v_.1.2.2.2.1 v_.1.2.2.2.2.1 v_.1.2.2.2.2.2.1 v_.1.2.2.2.2.2.2.1 v_.1.2.2.2.2.2.2.2.1 v_.1.2.2.2.2.2.2.2.2.1 v_.1.2.2.2.2.2.2.2.2.2.1 v_.1.2.2.2.2.2.2.2.2.2.2.1 v_.1.2.2.2.2.2.2.2.2.2.2.2.1 v_.1.2.2.2.2.2.2.2.2.2.2.2.2.1 v_.1.2.2.2.2.2.2.2.2.2.2.2.2.2.1 v_.1.2.2.2.2.2.2.2.2.2.2.2.2.2.2.1 v_.1.2.2.2.2.2.2.2.2.2.2.2.2.2.2.2.1 v_.1.2.2.2.2.2.2.2.2.2.2.2.2.2.2.2.2.1 v_.1.2.2.2.2.2.2.2.2.2.2.2.2.2.2.2.2.2.1 v_.1.2.2.2.2.2.2.2.2.2.2.2.2.2.2.2.2.2.2.1 v_.1.2.2.2.2.2.2.2.2.2.2.2.2.2.2.2.2.2.2.2.1 v_.2.1 v_.2.2.1 v_.2.2.2.1) ((plan3, taken1, stock, v212, v222, v232, v47, v48, v50, v51, v52, v55, v56, v57, v60, v61, v62, v65, v66, v67, ()), (c3, out2, row, ()))
theorem Q15_L1_run (N : Nat) (kx : Y1 → Y1 → Int → Int → Y0 → Y1 → Option Y3) (plan3 : Nat → Y1) (taken1 : Nat → (List Int)) (stock : Nat → Int) (v212 : Nat → Y1) (v222 : Nat → Int) (v232 : Nat → Int) (v47 : Nat → (List Int)) (v48 : Nat → Int) (v50 : Nat → (List Int)) (v51 : Nat → Int) (v52 : Nat → Bool) (v55 : Nat → (List Int)) (v56 : Nat → Bool) (v57 : Nat → Bool) (v60 : Nat → (List Int)) (v61 : Nat → Bool) (v62 : Nat → Bool) (v65 : Nat → (List Int)) (v66 : Nat → Int) (v67 : Nat → Int) (c3 : Nat → Y0) (out2 : Nat → Y1) (row : Nat → (List Int)) (n_ : Nat) {res_ : Option Y3} (hstep_ : ∀ j_, j_ < n_ → ∀ kx_, Q15_B1 N kx kx_ (plan3 j_) (taken1 j_) (stock j_) (v212 j_) (v222 j_) (v232 j_) (v47 j_) (v48 j_) (v50 j_) (v51 j_) (v52 j_) (v55 j_) (v56 j_) (v57 j_) (v60 j_) (v61 j_) (v62 j_) (v65 j_) (v66 j_) (v67 j_) (c3 j_) (out2 j_) (row j_) = kx_ (plan3 (j_ + 1)) (taken1 (j_ + 1)) (stock (j_ + 1)) (v212 (j_ + 1)) (v222 (j_ + 1)) (v232 (j_ + 1)) (v47 (j_ + 1)) (v48 (j_ + 1)) (v50 (j_ + 1)) (v51 (j_ + 1)) (v52 (j_ + 1)) (v55 (j_ + 1)) (v56 (j_ + 1)) (v57 (j_ + 1)) (v60 (j_ + 1)) (v61 (j_ + 1)) (v62 (j_ + 1)) (v65 (j_ + 1)) (v66 (j_ + 1)) (v67 (j_ + 1)) (c3 (j_ + 1)) (out2 (j_ + 1)) (row (j_ + 1))) (hend_ : ∀ kx_, Q15_B1 N kx kx_ (plan3 n_) (taken1 n_) (stock n_) (v212 n_) (v222 n_) (v232 n_) (v47 n_) (v48 n_) (v50 n_) (v51 n_) (v52 n_) (v55 n_) (v56 n_) (v57 n_) (v60 n_) (v61 n_) (v62 n_) (v65 n_) (v66 n_) (v67 n_) (c3 n_) (out2 n_) (row n_) = res_) (fu_ : Nat) (hm_ : n_ < fu_) : Q15_L1 N fu_ kx (plan3 0) (taken1 0) (stock 0) (v212 0) (v222 0) (v232 0) (v47 0) (v48 0) (v50 0) (v51 0) (v52 0) (v55 0) (v56 0) (v57 0) (v60 0) (v61 0) (v62 0) (v65 0) (v66 0) (v67 0) (c3 0) (out2 0) (row 0) = res_ := by
  exact loop_run (L := fun fu_ (x_ : Y1 × (List Int) × Int × Y1 × Int × Int × (List Int) × Int × (List Int) × Int × Bool × (List Int) × Bool × Bool × (List Int) × Bool × Bool × (List Int) × Int × Int × Y0 × Y1 × (List Int)) => Q15_L1 N fu_ kx x_.1 x_.2.1 x_.2.2.1 x_.2.2.2.1 x_.2.2.2.2.1 x_.2.2.2.2.2.1 x_.2.2.2.2.2.2.1 x_.2.2.2.2.2.2.2.1 x_.2.2.2.2.2.2.2.2.1 x_.2.2.2.2.2.2.2.2.2.1 x_.2.2.2.2.2.2.2.2.2.2.1 x_.2.2.2.2.2.2.2.2.2.2.2.1 x_.2.2.2.2.2.2.2.2.2.2.2.2.1 x_.2.2.2.2.2.2.2.2.2.2.2.2.2.1 x_.2.2.2.2.2.2.2.2.2.2.2.2.2.2.1 x_.2.2.2.2.2.2.2.2.2.2.2.2.2.2.2.1 x_.2.2.2.2.2.2.2.2.2.2.2.2.2.2.2.2.1 x_.2.2.2.2.2.2.2.2.2.2.2.2.2.2.2.2.2.1 x_.2.2.2.2.2.2.2.2.2.2.2.2.2.2.2.2.2.2.1 x_.2.2.2.2.2.2.2.2.2.2.2.2.2.2.2.2.2.2.2.1 x_.2.2.2.2.2.2.2.2.2.2.2.2.2.2.2.2.2.2.2.2.1 x_.2.2.2.2.2.2.2.2.2.2.2.2.2.2.2.2.2.2.2.2.2.1 x_.2.2.2.2.2.2.2.2.2.2.2.2.2.2.2.2.2.2.2.2.2.2) (B := fun kx_ x_ => Q15_B1 N kx (fun plan3 taken1 stock v212 v222 v232 v47 v48 v50 v51 v52 v55 v56 v57 v60 v61 v62 v65 v66 v67 c3 out2 row => kx_ (plan3, taken1, stock, v212, v222, v232, v47, v48, v50, v51, v52, v55, v56, v57, v60, v61, v62, v65, v66, v67, c3, out2, row)) x_.1 x_.2.1 x_.2.2.1 x_.2.2.2.1 x_.2.2.2.2.1 x_.2.2.2.2.2.1 x_.2.2.2.2.2.2.1 x_.2.2.2.2.2.2.2.1 x_.2.2.2.2.2.2.2.2.1 x_.2.2.2.2.2.2.2.2.2.1 x_.2.2.2.2.2.2.2.2.2.2.1 x_.2.2.2.2.2.2.2.2.2.2.2.1 x_.2.2.2.2.2.2.2.2.2.2.2.2.1 x_.2.2.2.2.2.2.2.2.2.2.2.2.2.1 x_.2.2.2.2.2.2.2.2.2.2.2.2.2.2.1 x_.2.2.2.2.2.2.2.2.2.2.2.2.2.2.2.1 x_.2.2.2.2.2.2.2.2.2.2.2.2.2.2.2.2.1 x_.2.2.2.2.2.2.2.2.2.2.2.2.2.2.2.2.2.1 x_.2.2.2.2.2.2.2.2.2.2.2.2.2.2.2.2.2.2.1 x_.2.2.2.2.2.2.2.2.2.2.2.2.2.2.2.2.2.2.2.1 x_.2.2.2.2.2.2.2.2.2.2.2.2.2.2.2.2.2.2.2.2.1 x_.2.2.2.2.2.2.2.2.2.2.2.2.2.2.2.2.2.2.2.2.2.1 x_.2.2.2.2.2.2.2.2.2.2.2.2.2.2.2.2.2.2.2.2.2.2) (fun _ _ => rfl) (fun j_ => (plan3 j_, taken1 j_, stock j_, v212 j_, v222 j_, v232 j_, v47 j_, v48 j_, v50 j_, v51 j_, v52 j_, v55 j_, v56 j_, v57 j_, v60 j_, v61 j_, v62 j_, v65 j_, v66 j_, v67 j_, c3 j_, out2 j_, row j_)) n_ (fun j_ hi_ kx_ => hstep_ j_ hi_ _) (fun kx_ => hend_ _) fu_ hm_
def Q15_K2 (N : Nat) (kx : Y1 → Y1 → Int → Int → Y0 → Y1 → Option Y3) (plan2 : List (List Int)) (list : List Int) (taken : List Int) (v211 : List (List Int)) (v221 : Int) (v231 : Int) (c2 : (List Int) × (List Int) × (List Int)) (out1 : List (List Int)) : Option Y3 :=
  bif ine (len list) (len c2.1) then
    some (([], false), ())
  else
    bif ine (len taken) (len c2.1) then
      some (([], false), ())
    else
      (Q20 N list 0 120).bind fun r =>
      bif !r.1 then
        some (([], false), ())
      else
        (Q20 N taken 0 120).bind fun r1 =>
        bif !r1.1 then
          some (([], false), ())
        else
          Q15_L1 N N kx plan2 taken 0 v211 v221 v231 taken (len taken) c2.1 (len c2.1) (ine (len taken) (len c2.1)) list r.1 (!r.1) taken r1.1 (!r1.1) list (len list) 0 c2 out1 []
def Q15_K3 (N : Nat) (out4 : List (List Int)) : Option Y3 :=
  some ((out4, true), ())
def Q15_B2 (N : Nat) (kx : Y1 → Y1 → Int → Int → Y0 → Y1 → Option Y3) (plan1 : List (List Int)) (v21 : List (List Int)) (v22 : Int) (v23 : Int) (c1 : (List Int) × (List Int) × (List Int)) (out : List (List Int)) : Option Y3 :=
  bif ilt v23 v22 then
    chk (inB v23 v21.length) <|
    bif ilt (iadd .i64 v23 1) (len plan1) then
      chk (inB (iadd .i64 v23 1) plan1.length) <|
      Q15_K2 N kx plan1 (gd v21 v23.toNat []) (gd plan1 (iadd .i64 v23 1).toNat []) v21 v22 v23 c1 out
    else
      Q15_K2 N kx plan1 (gd v21 v23.toNat []) c1.1 v21 v22 v23 c1 out
  else
    Q15_K3 N out
def Q15_L2 (N fu_ : Nat) (plan1 : List (List Int)) (v21 : List (List Int)) (v22 : Int) (v23 : Int) (c1 : (List Int) × (List Int) × (List Int)) (out : List (List Int)) : Option Y3 :=
  iterK fu_ (fun kx (v_ : (Y1 × Y1 × Int × Int × Unit) × Y18) => Q15_B2 N (fun plan1 v21 v22 v23 c1 out => kx ((plan1, v21, v22, v23, ()), (c1, out, ()))) v_.1.1 v_.1.2.1 v_.1.2.2.1 v_.1.2.2.2.1 v_.2.1 v_.2.2.1) ((plan1, v21, v22, v23, ()), (c1, out, ()))
theorem Q15_L2_run (N : Nat) (plan1 : Nat → Y1) (v21 : Nat → Y1) (v22 : Nat → Int) (v23 : Nat → Int) (c1 : Nat → Y0) (out : Nat → Y1) (n_ : Nat) {res_ : Option Y3} (hstep_ : ∀ j_, j_ < n_ → ∀ kx_, Q15_B2 N kx_ (plan1 j_) (v21 j_) (v22 j_) (v23 j_) (c1 j_) (out j_) = kx_ (plan1 (j_ + 1)) (v21 (j_ + 1)) (v22 (j_ + 1)) (v23 (j_ + 1)) (c1 (j_ + 1)) (out (j_ + 1))) (hend_ : ∀ kx_, Q15_B2 N kx_ (plan1 n_) (v21 n_) (v22 n_) (v23 n_) (c1 n_) (out n_) = res_) (fu_ : Nat) (hm_ : n_ < fu_) : Q15_L2 N fu_ (plan1 0) (v21 0) (v22 0) (v23 0) (c1 0) (out 0) = res_ := by
  exact loop_run (L := fun fu_ (x_ : Y1 × Y1 × Int × Int × Y0 × Y1) => Q15_L2 N fu_ x_.1 x_.2.1 x_.2.2.1 x_.2.2.2.1 x_.2.2.2.2.1 x_.2.2.2.2.2) (B := fun kx_ x_ => Q15_B2 N (fun plan1 v21 v22 v23 c1 out => kx_ (plan1, v21, v22, v23, c1, out)) x_.1 x_.2.1 x_.2.2.1 x_.2.2.2.1 x_.2.2.2.2.1 x_.2.2.2.2.2) (fun _ _ => rfl) (fun j_ => (plan1 j_, v21 j_, v22 j_, v23 j_, c1 j_, out j_)) n_ (fun j_ hi_ kx_ => hstep_ j_ hi_ _) (fun kx_ => hend_ _) fu_ hm_
def Q15 (N : Nat) (c : (List Int) × (List Int) × (List Int)) (plan : List (List Int)) : Option Y3 :=
  bif ine (len plan) (len c.2.1) then
    some (([], false), ())
  else
    Q15_L2 N N plan plan (len plan) 0 c []
def Q13_K1 (N : Nat) (kx1 : Int → Int → Y1 → Int → Int → (List Int) → Int → Int → Y0 → Y19 → Option Y6) (sum2 : Int) (stage1 : Int) (i : Int) (v182 : List (List Int)) (v192 : Int) (v202 : Int) (v251 : List Int) (v261 : Int) (v271 : Int) (c3 : (List Int) × (List Int) × (List Int)) (b152 : Y1 × Bool) : Option Y6 :=
  chk (inB stage1 c3.2.2.length) <|
  chk (inB stage1 b152.1.length) <|
  chk (inB i (gd b152.1 stage1.toNat []).length) <|
  kx1 (iadd .i64 sum2 (imul .i64 (gd c3.2.2 stage1.toNat 0) (gd (gd b152.1 stage1.toNat []) i.toNat 0))) stage1 v182 v192 v202 v251 v261 (iadd .i64 v271 1) c3 b152
def Q13_K2 (N : Nat) (kx : Int → Y1 → Int → Int → Y0 → Y19 → Option Y6) (sum3 : Int) (v183 : List (List Int)) (v193 : Int) (v203 : Int) (c4 : (List Int) × (List Int) × (List Int)) (b153 : Y1 × Bool) : Option Y6 :=
  kx sum3 v183 v193 (iadd .i64 v203 1) c4 b153
def Q13_B1 (N : Nat) (kx : Int → Y1 → Int → Int → Y0 → Y19 → Option Y6) (kx1 : Int → Int → Y1 → Int → Int → (List Int) → Int → Int → Y0 → Y19 → Option Y6) (sum1 : Int) (stage : Int) (v181 : List (List Int)) (v191 : Int) (v201 : Int) (v25 : List Int) (v26 : Int) (v27 : Int) (c2 : (List Int) × (List Int) × (List Int)) (b151 : Y1 × Bool) : Option Y6 :=
  bif ilt v27 v26 then
    chk (inB v27 v25.length) <|
    bif ilt 0 (gd v25 v27.toNat 0) then
      chk (inB stage c2.2.1.length) <|
      Q13_K1 N kx1 (iadd .i64 sum1 (gd c2.2.1 stage.toNat 0)) stage v27 v181 v191 v201 v25 v26 v27 c2 b151
    else
      Q13_K1 N kx1 sum1 stage v27 v181 v191 v201 v25 v26 v27 c2 b151
  else
    Q13_K2 N kx sum1 v181 v191 v201 c2 b151
def Q13_L1 (N fu_ : Nat) (kx : Int → Y1 → Int → Int → Y0 → Y19 → Option Y6) (sum1 : Int) (stage : Int) (v181 : List (List Int)) (v191 : Int) (v201 : Int) (v25 : List Int) (v26 : Int) (v27 : Int) (c2 : (List Int) × (List Int) × (List Int)) (b151 : Y1 × Bool) : Option Y6 :=
  iterK fu_ (fun kx1 (v_ : (Int × Int × Y1 × Int × Int × (List Int) × Int × Int × Unit) × (Y0 × Y19 × Unit)) => Q13_B1 N kx (fun sum1 stage v181 v191 v201 v25 v26 v27 c2 b151 => kx1 ((sum1, stage, v181, v191, v201, v25, v26, v27, ()), (c2, b151, ()))) v_.1.1 v_.1.2.1 v_.1.2.2.1 v_.1.2.2.2.1 v_.1.2.2.2.2.1 v_.1.2.2.2.2.2.1 v_.1.2.2.2.2.2.2.1 v_.1.2.2.2.2.2.2.2.1 v_.2.1 v_.2.2.1) ((sum1, stage, v181, v191, v201, v25, v26, v27, ()), (c2, b151, ()))
theorem Q13_L1_run (N : Nat) (kx : Int → Y1 → Int → Int → Y0 → Y19 → Option Y6) (sum1 : Nat → Int) (stage : Nat → Int) (v181 : Nat → Y1) (v191 : Nat → Int) (v201 : Nat → Int) (v25 : Nat → (List Int)) (v26 : Nat → Int) (v27 : Nat → Int) (c2 : Nat → Y0) (b151 : Nat → Y19) (n_ : Nat) {res_ : Option Y6} (hstep_ : ∀ j_, j_ < n_ → ∀ kx_, Q13_B1 N kx kx_ (sum1 j_) (stage j_) (v181 j_) (v191 j_) (v201 j_) (v25 j_) (v26 j_) (v27 j_) (c2 j_) (b151 j_) = kx_ (sum1 (j_ + 1)) (stage (j_ + 1)) (v181 (j_ + 1)) (v191 (j_ + 1)) (v201 (j_ + 1)) (v25 (j_ + 1)) (v26 (j_ + 1)) (v27 (j_ + 1)) (c2 (j_ + 1)) (b151 (j_ + 1))) (hend_ : ∀ kx_, Q13_B1 N kx kx_ (sum1 n_) (stage n_) (v181 n_) (v191 n_) (v201 n_) (v25 n_) (v26 n_) (v27 n_) (c2 n_) (b151 n_) = res_) (fu_ : Nat) (hm_ : n_ < fu_) : Q13_L1 N fu_ kx (sum1 0) (stage 0) (v181 0) (v191 0) (v201 0) (v25 0) (v26 0) (v27 0) (c2 0) (b151 0) = res_ := by
  exact loop_run (L := fun fu_ (x_ : Int × Int × Y1 × Int × Int × (List Int) × Int × Int × Y0 × Y19) => Q13_L1 N fu_ kx x_.1 x_.2.1 x_.2.2.1 x_.2.2.2.1 x_.2.2.2.2.1 x_.2.2.2.2.2.1 x_.2.2.2.2.2.2.1 x_.2.2.2.2.2.2.2.1 x_.2.2.2.2.2.2.2.2.1 x_.2.2.2.2.2.2.2.2.2) (B := fun kx_ x_ => Q13_B1 N kx (fun sum1 stage v181 v191 v201 v25 v26 v27 c2 b151 => kx_ (sum1, stage, v181, v191, v201, v25, v26, v27, c2, b151)) x_.1 x_.2.1 x_.2.2.1 x_.2.2.2.1 x_.2.2.2.2.1 x_.2.2.2.2.2.1 x_.2.2.2.2.2.2.1 x_.2.2.2.2.2.2.2.1 x_.2.2.2.2.2.2.2.2.1 x_.2.2.2.2.2.2.2.2.2) (fun _ _ => rfl) (fun j_ => (sum1 j_, stage j_, v181 j_, v191 j_, v201 j_, v25 j_, v26 j_, v27 j_, c2 j_, b151 j_)) n_ (fun j_ hi_ kx_ => hstep_ j_ hi_ _) (fun kx_ => hend_ _) fu_ hm_
def Q13_K3 (N : Nat) (sum4 : Int) : Option Y6 :=
  some (sum4, ())
def Q13_B2 (N : Nat) (kx : Int → Y1 → Int → Int → Y0 → Y19 → Option Y6) (sum : Int) (v18 : List (List Int)) (v19 : Int) (v20 : Int) (c1 : (List Int) × (List Int) × (List Int)) (b15 : Y1 × Bool) : Option Y6 :=
  bif ilt v20 v19 then
    chk (inB v20 v18.length) <|
    Q13_L1 N N kx sum v20 v18 v19 v20 (gd v18 v20.toNat []) (len (gd v18 v20.toNat [])) 0 c1 b15
  else
    Q13_K3 N sum
def Q13_L2 (N fu_ : Nat) (sum : Int) (v18 : List (List Int)) (v19 : Int) (v20 : Int) (c1 : (List Int) × (List Int) × (List Int)) (b15 : Y1 × Bool) : Option Y6 :=
  iterK fu_ (fun kx (v_ : (Int × Y1 × Int × Int × Unit) × (Y0 × Y19 × Unit)) => Q13_B2 N (fun sum v18 v19 v20 c1 b15 => kx ((sum, v18, v19, v20, ()), (c1, b15, ()))) v_.1.1 v_.1.2.1 v_.1.2.2.1 v_.1.2.2.2.1 v_.2.1 v_.2.2.1) ((sum, v18, v19, v20, ()), (c1, b15, ()))
theorem Q13_L2_run (N : Nat) (sum : Nat → Int) (v18 : Nat → Y1) (v19 : Nat → Int) (v20 : Nat → Int) (c1 : Nat → Y0) (b15 : Nat → Y19) (n_ : Nat) {res_ : Option Y6} (hstep_ : ∀ j_, j_ < n_ → ∀ kx_, Q13_B2 N kx_ (sum j_) (v18 j_) (v19 j_) (v20 j_) (c1 j_) (b15 j_) = kx_ (sum (j_ + 1)) (v18 (j_ + 1)) (v19 (j_ + 1)) (v20 (j_ + 1)) (c1 (j_ + 1)) (b15 (j_ + 1))) (hend_ : ∀ kx_, Q13_B2 N kx_ (sum n_) (v18 n_) (v19 n_) (v20 n_) (c1 n_) (b15 n_) = res_) (fu_ : Nat) (hm_ : n_ < fu_) : Q13_L2 N fu_ (sum 0) (v18 0) (v19 0) (v20 0) (c1 0) (b15 0) = res_ := by
  exact loop_run (L := fun fu_ (x_ : Int × Y1 × Int × Int × Y0 × Y19) => Q13_L2 N fu_ x_.1 x_.2.1 x_.2.2.1 x_.2.2.2.1 x_.2.2.2.2.1 x_.2.2.2.2.2) (B := fun kx_ x_ => Q13_B2 N (fun sum v18 v19 v20 c1 b15 => kx_ (sum, v18, v19, v20, c1, b15)) x_.1 x_.2.1 x_.2.2.1 x_.2.2.2.1 x_.2.2.2.2.1 x_.2.2.2.2.2) (fun _ _ => rfl) (fun j_ => (sum j_, v18 j_, v19 j_, v20 j_, c1 j_, b15 j_)) n_ (fun j_ hi_ kx_ => hstep_ j_ hi_ _) (fun kx_ => hend_ _) fu_ hm_
def Q13 (N : Nat) (c : (List Int) × (List Int) × (List Int)) (plan : List (List Int)) : Option Y6 :=
  (Q15 N c plan).bind fun r =>
  Q13_L2 N N 0 plan (len plan) 0 c r.1
def Q24_K1 (N : Nat) (out1 : Int) : Option Y6 :=
  some (out1, ())
def Q24_B1 (N : Nat) (kx : Int → Int → Int → Int → Option Y6) (a1 : Int) (out : Int) (v6 : Int) (v7 : Int) : Option Y6 :=
  bif ilt v7 v6 then
    kx a1 (imul .i64 out a1) v6 (iadd .i64 v7 1)
  else
    Q24_K1 N out
def Q24_L1 (N fu_ : Nat) (a1 : Int) (out : Int) (v6 : Int) (v7 : Int) : Option Y6 :=
  iterK fu_ (fun kx (v_ : (Int × Int × Int × Int × Unit) × (Unit)) => Q24_B1 N (fun a1 out v6 v7 => kx ((a1, out, v6, v7, ()), ())) v_.1.1 v_.1.2.1 v_.1.2.2.1 v_.1.2.2.2.1) ((a1, out, v6, v7, ()), ())
theorem Q24_L1_run (N : Nat) (a1 : Nat → Int) (out : Nat → Int) (v6 : Nat → Int) (v7 : Nat → Int) (n_ : Nat) {res_ : Option Y6} (hstep_ : ∀ j_, j_ < n_ → ∀ kx_, Q24_B1 N kx_ (a1 j_) (out j_) (v6 j_) (v7 j_) = kx_ (a1 (j_ + 1)) (out (j_ + 1)) (v6 (j_ + 1)) (v7 (j_ + 1))) (hend_ : ∀ kx_, Q24_B1 N kx_ (a1 n_) (out n_) (v6 n_) (v7 n_) = res_) (fu_ : Nat) (hm_ : n_ < fu_) : Q24_L1 N fu_ (a1 0) (out 0) (v6 0) (v7 0) = res_ := by
  exact loop_run (L := fun fu_ (x_ : Int × Int × Int × Int) => Q24_L1 N fu_ x_.1 x_.2.1 x_.2.2.1 x_.2.2.2) (B := fun kx_ x_ => Q24_B1 N (fun a1 out v6 v7 => kx_ (a1, out, v6, v7)) x_.1 x_.2.1 x_.2.2.1 x_.2.2.2) (fun _ _ => rfl) (fun j_ => (a1 j_, out j_, v6 j_, v7 j_)) n_ (fun j_ hi_ kx_ => hstep_ j_ hi_ _) (fun kx_ => hend_ _) fu_ hm_
def Q24 (N : Nat) (a : Int) (n : Int) : Option Y6 :=
  Q24_L1 N N a 1 n 0
def Q0 (N : Nat) (x : Int) (y : Int) : Option Y6 :=
  (Q2 N x).bind fun r =>
  (Q2 N y).bind fun r1 =>
  bif r.1 then
    bif r1.1 then
      some (0, ())
    else
      some ((-1), ())
  else
    bif r1.1 then
      some (1, ())
    else
      bif ilt x y then
        some ((-1), ())
      else
        bif ilt y x then
          some (1, ())
        else
          some (0, ())
def Q38_K1 (N : Nat) (s12 : List Int) (s22 : List Int) : Option Y6 :=
  bif ilt (len s12) (len s22) then
    some ((-1), ())
  else
    some (0, ())
def Q38_B1 (N : Nat) (kx : (List Int) → (List Int) → (List Int) → Int → Int → Option Y6) (s11 : List Int) (s21 : List Int) (v9 : List Int) (v10 : Int) (v11 : Int) : Option Y6 :=
  bif ilt v11 v10 then
    chk (inB v11 v9.length) <|
    bif ile (len s21) v11 then
      some (1, ())
    else
      chk (inB v11 s21.length) <|
      (Q0 N (gd v9 v11.toNat 0) (gd s21 v11.toNat 0)).bind fun r =>
      bif ine r.1 0 then
        some (r.1, ())
      else
        kx s11 s21 v9 v10 (iadd .i64 v11 1)
  else
    Q38_K1 N s11 s21
def Q38_L1 (N fu_ : Nat) (s11 : List Int) (s21 : List Int) (v9 : List Int) (v10 : Int) (v11 : Int) : Option Y6 :=
  iterK fu_ (fun kx (v_ : ((List Int) × (List Int) × (List Int) × Int × Int × Unit) × (Unit)) => Q38_B1 N (fun s11 s21 v9 v10 v11 => kx ((s11, s21, v9, v10, v11, ()), ())) v_.1.1 v_.1.2.1 v_.1.2.2.1 v_.1.2.2.2.1 v_.1.2.2.2.2.1) ((s11, s21, v9, v10, v11, ()), ())
theorem Q38_L1_succ (N fu_ : Nat) (s11 : List Int) (s21 : List Int) (v9 : List Int) (v10 : Int) (v11 : Int) : Q38_L1 N (fu_ + 1) s11 s21 v9 v10 v11 = Q38_B1 N (fun s11 s21 v9 v10 v11 => Q38_L1 N fu_ s11 s21 v9 v10 v11) s11 s21 v9 v10 v11 := rfl
theorem Q38_L1_run (N : Nat) (s11 : Nat → (List Int)) (s21 : Nat → (List Int)) (v9 : Nat → (List Int)) (v10 : Nat → Int) (v11 : Nat → Int) (n_ : Nat) {res_ : Option Y6} (hstep_ : ∀ j_, j_ < n_ → ∀ kx_, Q38_B1 N kx_ (s11 j_) (s21 j_) (v9 j_) (v10 j_) (v11 j_) = kx_ (s11 (j_ + 1)) (s21 (j_ + 1)) (v9 (j_ + 1)) (v10 (j_ + 1)) (v11 (j_ + 1))) (hend_ : ∀ kx_, Q38_B1 N kx_ (s11 n_) (s21 n_) (v9 n_) (v10 n_) (v11 n_) = res_) (fu_ : Nat) (hm_ : n_ < fu_) : Q38_L1 N fu_ (s11 0) (s21 0) (v9 0) (v10 0) (v11 0) = res_ := by
  exact loop_run (L := fun fu_ (x_ : (List Int) × (List Int) × (List Int) × Int × Int) => Q38_L1 N fu_ x_.1 x_.2.1 x_.2.2.1 x_.2.2.2.1 x_.2.2.2.2) (B := fun kx_ x_ => Q38_B1 N (fun s11 s21 v9 v10 v11 => kx_ (s11, s21, v9, v10, v11)) x_.1 x_.2.1 x_.2.2.1 x_.2.2.2.1 x_.2.2.2.2) (fun _ _ => rfl) (fun j_ => (s11 j_, s21 j_, v9 j_, v10 j_, v11 j_)) n_ (fun j_ hi_ kx_ => hstep_ j_ hi_ _) (fun kx_ => hend_ _) fu_ hm_
def Q38 (N : Nat) (s1 : List Int) (s2 : List Int) : Option Y6 :=
  Q38_L1 N N s1 s2 s1 (len s1) 0
def Q12 (N : Nat) (a : List Int) (b : List Int) : Option Y6 :=
  (Q38 N a b).bind fun r =>
  some (r.1, ())
def Q37_K1 (N : Nat) (s12 : List (List Int)) (s22 : List (List Int)) : Option Y6 :=
  bif ilt (len s12) (len s22) then
    some ((-1), ())
  else
    some (0, ())
def Q37_B1 (N : Nat) (kx : Y1 → Y1 → Y1 → Int → Int → Option Y6) (s11 : List (List Int)) (s21 : List (List Int)) (v11 : List (List Int)) (v12 : Int) (v13 : Int) : Option Y6 :=
  bif ilt v13 v12 then
    chk (inB v13 v11.length) <|
    bif ile (len s21) v13 then
      some (1, ())
    else
      chk (inB v13 s21.length) <|
      (Q12 N (gd v11 v13.toNat []) (gd s21 v13.toNat [])).bind fun r =>
      bif ine r.1 0 then
        some (r.1, ())
      else
        kx s11 s21 v11 v12 (iadd .i64 v13 1)
  else
    Q37_K1 N s11 s21
def Q37_L1 (N fu_ : Nat) (s11 : List (List Int)) (s21 : List (List Int)) (v11 : List (List Int)) (v12 : Int) (v13 : Int) : Option Y6 :=
  iterK fu_ (fun kx (v_ : (Y1 × Y1 × Y1 × Int × Int × Unit) × (Unit)) => Q37_B1 N (fun s11 s21 v11 v12 v13 => kx ((s11, s21, v11, v12, v13, ()), ())) v_.1.1 v_.1.2.1 v_.1.2.2.1 v_.1.2.2.2.1 v_.1.2.2.2.2.1) ((s11, s21, v11, v12, v13, ()), ())
theorem Q37_L1_succ (N fu_ : Nat) (s11 : List (List Int)) (s21 : List (List Int)) (v11 : List (List Int)) (v12 : Int) (v13 : Int) : Q37_L1 N (fu_ + 1) s11 s21 v11 v12 v13 = Q37_B1 N (fun s11 s21 v11 v12 v13 => Q37_L1 N fu_ s11 s21 v11 v12 v13) s11 s21 v11 v12 v13 := rfl
def Q37 (N : Nat) (s1 : List (List Int)) (s2 : List (List Int)) : Option Y6 :=
  Q37_L1 N N s1 s2 s1 (len s1) 0
def Q11_K1 (N : Nat) (kx1 : Int → Int → Int → Int → Int → Int → Int → Int → Int → Int → Y0 → Y1 → Y1 → Option Y8) (n3 : Int) (stages3 : Int) (least3 : Int) (length3 : Int) (code2 : Int) (sum2 : Int) (digit1 : Int) (v283 : Int) (v293 : Int) (v342 : Int) (v352 : Int) (c4 : (List Int) × (List Int) × (List Int)) (best3 : List (List Int)) (periods2 : List (List Int)) : Option Y8 :=
  kx1 n3 stages3 least3 length3 code2 (iadd .i64 sum2 digit1) v283 v293 v342 (iadd .i64 v352 1) c4 best3 periods2
def Q11_B1 (N : Nat) (kx1 : Int → Int → Int → Int → Int → Int → Int → Int → Int → Int → Y0 → Y1 → Y1 → Option Y8) (kx2 : Int → Int → Int → Int → Int → Int → Int → Int → Int → Int → Int → Int → Int → Y0 → Y1 → Y1 → Option Y8) (n2 : Int) (stages2 : Int) (least2 : Int) (length2 : Int) (code1 : Int) (sum1 : Int) (i : Int) (digit : Int) (stage : Int) (v282 : Int) (v292 : Int) (v341 : Int) (v351 : Int) (c3 : (List Int) × (List Int) × (List Int)) (best2 : List (List Int)) (periods1 : List (List Int)) : Option Y8 :=
  bif ilt stage stages2 then
    chk (inB stage periods1.length) <|
    chk (fitB ((gd periods1 stage.toNat []).length + 1) 8) <|
    chk (inB stage periods1.length) <|
    chk (natEq stage.toNat stage.toNat) <|
    kx2 n2 stages2 least2 length2 code1 sum1 i digit (iadd .i64 stage 1) v282 v292 v341 v351 c3 best2 (List.set periods1 stage.toNat ((gd periods1 stage.toNat []) ++ [i]))
  else
    Q11_K1 N kx1 n2 stages2 least2 length2 code1 sum1 digit v282 v292 v341 v351 c3 best2 periods1
def Q11_L1 (N fu_ : Nat) (kx1 : Int → Int → Int → Int → Int → Int → Int → Int → Int → Int → Y0 → Y1 → Y1 → Option Y8) (n2 : Int) (stages2 : Int) (least2 : Int) (length2 : Int) (code1 : Int) (sum1 : Int) (i : Int) (digit : Int) (stage : Int) (v282 : Int) (v292 : Int) (v341 : Int) (v351 : Int) (c3 : (List Int) × (List Int) × (List Int)) (best2 : List (List Int)) (periods1 : List (List Int)) : Option Y8 :=
  iterK fu_ (fun kx2 (v_ : (Int × Int × Int × Int × Int × Int × Int × Int × Int × Int × Int × Int × Int × Unit) × (Y0 × Y1 × Y1 × Unit)) => Q11_B1 N kx1 (fun n2 stages2 least2 length2 code1 sum1 i digit stage v282 v292 v341 v351 c3 best2 periods1 => kx2 ((n2, stages2, least2, length2, code1, sum1, i, digit, stage, v282, v292, v341, v351, ()), (c3, best2, periods1, ()))) v_.1.1 v_.1.2.1 v_.1.2.2.1 v_.1.2.2.2.1 v_.1.2.2.2.2.1 v_.1.2.2.2.2.2.1 v_.1.2.2.2.2.2.2.1 v_.1.2.2.2.2.2.2.2.1 v_.1.2.2.2.2.2.2.2.2.1 v_.1.2.2.2.2.2.2.2.2.2.1 v_.1.2.2.2.2.2.2.2.2.2.2.1 v_.1.2.2.2.2.2.2.2.2.2.2.2.1 v_.1.2.2.2.2.2.2.2.2.2.2.2.2.1 v_.2.1 v_.2.2.1 v_.2.2.2.1) ((n2, stages2, least2, length2, code1, sum1, i, digit, stage, v282, v292, v341, v351, ()), (c3, best2, periods1, ()))
theorem Q11_L1_run (N : Nat) (kx1 : Int → Int → Int → Int → Int → Int → Int → Int → Int → Int → Y0 → Y1 → Y1 → Option Y8) (n2 : Nat → Int) (stages2 : Nat → Int) (least2 : Nat → Int) (length2 : Nat → Int) (code1 : Nat → Int) (sum1 : Nat → Int) (i : Nat → Int) (digit : Nat → Int) (stage : Nat → Int) (v282 : Nat → Int) (v292 : Nat → Int) (v341 : Nat → Int) (v351 : Nat → Int) (c3 : Nat → Y0) (best2 : Nat → Y1) (periods1 : Nat → Y1) (n_ : Nat) {res_ : Option Y8} (hstep_ : ∀ j_, j_ < n_ → ∀ kx_, Q11_B1 N kx1 kx_ (n2 j_) (stages2 j_) (least2 j_) (length2 j_) (code1 j_) (sum1 j_) (i j_) (digit j_) (stage j_) (v282 j_) (v292 j_) (v341 j_) (v351 j_) (c3 j_) (best2 j_) (periods1 j_) = kx_ (n2 (j_ + 1)) (stages2 (j_ + 1)) (least2 (j_ + 1)) (length2 (j_ + 1)) (code1 (j_ + 1)) (sum1 (j_ + 1)) (i (j_ + 1)) (digit (j_ + 1)) (stage (j_ + 1)) (v282 (j_ + 1)) (v292 (j_ + 1)) (v341 (j_ + 1)) (v351 (j_ + 1)) (c3 (j_ + 1)) (best2 (j_ + 1)) (periods1 (j_ + 1))) (hend_ : ∀ kx_, Q11_B1 N kx1 kx_ (n2 n_) (stages2 n_) (least2 n_) (length2 n_) (code1 n_) (sum1 n_) (i n_) (digit n_) (stage n_) (v282 n_) (v292 n_) (v341 n_) (v351 n_) (c3 n_) (best2 n_) (periods1 n_) = res_) (fu_ : Nat) (hm_ : n_ < fu_) : Q11_L1 N fu_ kx1 (n2 0) (stages2 0) (least2 0) (length2 0) (code1 0) (sum1 0) (i 0) (digit 0) (stage 0) (v282 0) (v292 0) (v341 0) (v351 0) (c3 0) (best2 0) (periods1 0) = res_ := by
  exact loop_run (L := fun fu_ (x_ : Int × Int × Int × Int × Int × Int × Int × Int × Int × Int × Int × Int × Int × Y0 × Y1 × Y1) => Q11_L1 N fu_ kx1 x_.1 x_.2.1 x_.2.2.1 x_.2.2.2.1 x_.2.2.2.2.1 x_.2.2.2.2.2.1 x_.2.2.2.2.2.2.1 x_.2.2.2.2.2.2.2.1 x_.2.2.2.2.2.2.2.2.1 x_.2.2.2.2.2.2.2.2.2.1 x_.2.2.2.2.2.2.2.2.2.2.1 x_.2.2.2.2.2.2.2.2.2.2.2.1 x_.2.2.2.2.2.2.2.2.2.2.2.2.1 x_.2.2.2.2.2.2.2.2.2.2.2.2.2.1 x_.2.2.2.2.2.2.2.2.2.2.2.2.2.2.1 x_.2.2.2.2.2.2.2.2.2.2.2.2.2.2.2) (B := fun kx_ x_ => Q11_B1 N kx1 (fun n2 stages2 least2 length2 code1 sum1 i digit stage v282 v292 v341 v351 c3 best2 periods1 => kx_ (n2, stages2, least2, length2, code1, sum1, i, digit, stage, v282, v292, v341, v351, c3, best2, periods1)) x_.1 x_.2.1 x_.2.2.1 x_.2.2.2.1 x_.2.2.2.2.1 x_.2.2.2.2.2.1 x_.2.2.2.2.2.2.1 x_.2.2.2.2.2.2.2.1 x_.2.2.2.2.2.2.2.2.1 x_.2.2.2.2.2.2.2.2.2.1 x_.2.2.2.2.2.2.2.2.2.2.1 x_.2.2.2.2.2.2.2.2.2.2.2.1 x_.2.2.2.2.2.2.2.2.2.2.2.2.1 x_.2.2.2.2.2.2.2.2.2.2.2.2.2.1 x_.2.2.2.2.2.2.2.2.2.2.2.2.2.2.1 x_.2.2.2.2.2.2.2.2.2.2.2.2.2.2.2) (fun _ _ => rfl) (fun j_ => (n2 j_, stages2 j_, least2 j_, length2 j_, code1 j_, sum1 j_, i j_, digit j_, stage j_, v282 j_, v292 j_, v341 j_, v351 j_, c3 j_, best2 j_, periods1 j_)) n_ (fun j_ hi_ kx_ => hstep_ j_ hi_ _) (fun kx_ => hend_ _) fu_ hm_
def Q11_K2 (N : Nat) (kx : Int → Int → Int → Int → Int → Int → Y0 → Y1 → Option Y8) (n5 : Int) (stages5 : Int) (least5 : Int) (length5 : Int) (sum4 : Int) (cost : Int) (before : Bool) (v285 : Int) (v295 : Int) (c6 : (List Int) × (List Int) × (List Int)) (best5 : List (List Int)) (periods4 : List (List Int)) : Option Y8 :=
  bif ilt cost least5 then
    kx n5 stages5 cost sum4 v285 (iadd .i64 v295 1) c6 periods4
  else
    bif ieq cost least5 then
      bif before then
        kx n5 stages5 cost sum4 v285 (iadd .i64 v295 1) c6 periods4
      else
        kx n5 stages5 least5 length5 v285 (iadd .i64 v295 1) c6 best5
    else
      kx n5 stages5 least5 length5 v285 (iadd .i64 v295 1) c6 best5
def Q11_K3 (N : Nat) (kx : Int → Int → Int → Int → Int → Int → Y0 → Y1 → Option Y8) (n4 : Int) (stages4 : Int) (least4 : Int) (length4 : Int) (sum3 : Int) (v284 : Int) (v294 : Int) (c5 : (List Int) × (List Int) × (List Int)) (best4 : List (List Int)) (periods3 : List (List Int)) : Option Y8 :=
  (Q14 N c5 periods3).bind fun r2 =>
  bif !r2.1.2 then
    kx n4 stages4 least4 length4 v284 (iadd .i64 v294 1) c5 best4
  else
    (Q13 N c5 r2.1.1).bind fun r3 =>
    bif ilt sum3 length4 then
      Q11_K2 N kx n4 stages4 least4 length4 sum3 r3.1 true v284 v294 c5 best4 periods3
    else
      bif ieq sum3 length4 then
        (Q37 N periods3 best4).bind fun r4 =>
        Q11_K2 N kx n4 stages4 least4 length4 sum3 r3.1 (ilt r4.1 0) v284 v294 c5 best4 periods3
      else
        Q11_K2 N kx n4 stages4 least4 length4 sum3 r3.1 false v284 v294 c5 best4 periods3
def Q11_B2 (N : Nat) (kx : Int → Int → Int → Int → Int → Int → Y0 → Y1 → Option Y8) (kx1 : Int → Int → Int → Int → Int → Int → Int → Int → Int → Int → Y0 → Y1 → Y1 → Option Y8) (n1 : Int) (stages1 : Int) (least1 : Int) (length1 : Int) (code : Int) (sum : Int) (v281 : Int) (v291 : Int) (v34 : Int) (v35 : Int) (c2 : (List Int) × (List Int) × (List Int)) (best1 : List (List Int)) (periods : List (List Int)) : Option Y8 :=
  bif ilt v35 v34 then
    (Q24 N (iadd .i64 stages1 1) v35).bind fun r1 =>
    chk (ine r1.1 0) <|
    chk (ine (iadd .i64 stages1 1) 0) <|
    Q11_L1 N N kx1 n1 stages1 least1 length1 code sum v35 (irem (iquo .i64 code r1.1) (iadd .i64 stages1 1)) (isub .i64 stages1 (irem (iquo .i64 code r1.1) (iadd .i64 stages1 1))) v281 v291 v34 v35 c2 best1 periods
  else
    Q11_K3 N kx n1 stages1 least1 length1 sum v281 v291 c2 best1 periods
def Q11_L2 (N fu_ : Nat) (kx : Int → Int → Int → Int → Int → Int → Y0 → Y1 → Option Y8) (n1 : Int) (stages1 : Int) (least1 : Int) (length1 : Int) (code : Int) (sum : Int) (v281 : Int) (v291 : Int) (v34 : Int) (v35 : Int) (c2 : (List Int) × (List Int) × (List Int)) (best1 : List (List Int)) (periods : List (List Int)) : Option Y8 :=
  iterK fu_ (fun kx1 (v_ : (Int × Int × Int × Int × Int × Int × Int × Int × Int × Int × Unit) × (Y0 × Y1 × Y1 × Unit)) => Q11_B2 N kx (fun n1 stages1 least1 length1 code sum v281 v291 v34 v35 c2 best1 periods => kx1 ((n1, stages1, least1, length1, code, sum, v281, v291, v34, v35, ()), (c2, best1, periods, ()))) v_.1.1 v_.1.2.1 v_.1.2.2.1 v_.1.2.2.2.1 v_.1.2.2.2.2.1 v_.1.2.2.2.2.2.1 v_.1.2.2.2.2.2.2.1 v_.1.2.2.2.2.2.2.2.1 v_.1.2.2.2.2.2.2.2.2.1 v_.1.2.2.2.2.2.2.2.2.2.1 v_.2.1 v_.2.2.1 v_.2.2.2.1) ((n1, stages1, least1, length1, code, sum, v281, v291, v34, v35, ()), (c2, best1, periods, ()))
theorem Q11_L2_run (N : Nat) (kx : Int → Int → Int → Int → Int → Int → Y0 → Y1 → Option Y8) (n1 : Nat → Int) (stages1 : Nat → Int) (least1 : Nat → Int) (length1 : Nat → Int) (code : Nat → Int) (sum : Nat → Int) (v281 : Nat → Int) (v291 : Nat → Int) (v34 : Nat → Int) (v35 : Nat → Int) (c2 : Nat → Y0) (best1 : Nat → Y1) (periods : Nat → Y1) (n_ : Nat) {res_ : Option Y8} (hstep_ : ∀ j_, j_ < n_ → ∀ kx_, Q11_B2 N kx kx_ (n1 j_) (stages1 j_) (least1 j_) (length1 j_) (code j_) (sum j_) (v281 j_) (v291 j_) (v34 j_) (v35 j_) (c2 j_) (best1 j_) (periods j_) = kx_ (n1 (j_ + 1)) (stages1 (j_ + 1)) (least1 (j_ + 1)) (length1 (j_ + 1)) (code (j_ + 1)) (sum (j_ + 1)) (v281 (j_ + 1)) (v291 (j_ + 1)) (v34 (j_ + 1)) (v35 (j_ + 1)) (c2 (j_ + 1)) (best1 (j_ + 1)) (periods (j_ + 1))) (hend_ : ∀ kx_, Q11_B2 N kx kx_ (n1 n_) (stages1 n_) (least1 n_) (length1 n_) (code n_) (sum n_) (v281 n_) (v291 n_) (v34 n_) (v35 n_) (c2 n_) (best1 n_) (periods n_) = res_) (fu_ : Nat) (hm_ : n_ < fu_) : Q11_L2 N fu_ kx (n1 0) (stages1 0) (least1 0) (length1 0) (code 0) (sum 0) (v281 0) (v291 0) (v34 0) (v35 0) (c2 0) (best1 0) (periods 0) = res_ := by
  exact loop_run (L := fun fu_ (x_ : Int × Int × Int × Int × Int × Int × Int × Int × Int × Int × Y0 × Y1 × Y1) => Q11_L2 N fu_ kx x_.1 x_.2.1 x_.2.2.1 x_.2.2.2.1 x_.2.2.2.2.1 x_.2.2.2.2.2.1 x_.2.2.2.2.2.2.1 x_.2.2.2.2.2.2.2.1 x_.2.2.2.2.2.2.2.2.1 x_.2.2.2.2.2.2.2.2.2.1 x_.2.2.2.2.2.2.2.2.2.2.1 x_.2.2.2.2.2.2.2.2.2.2.2.1 x_.2.2.2.2.2.2.2.2.2.2.2.2) (B := fun kx_ x_ => Q11_B2 N kx (fun n1 stages1 least1 length1 code sum v281 v291 v34 v35 c2 best1 periods => kx_ (n1, stages1, least1, length1, code, sum, v281, v291, v34, v35, c2, best1, periods)) x_.1 x_.2.1 x_.2.2.1 x_.2.2.2.1 x_.2.2.2.2.1 x_.2.2.2.2.2.1 x_.2.2.2.2.2.2.1 x_.2.2.2.2.2.2.2.1 x_.2.2.2.2.2.2.2.2.1 x_.2.2.2.2.2.2.2.2.2.1 x_.2.2.2.2.2.2.2.2.2.2.1 x_.2.2.2.2.2.2.2.2.2.2.2.1 x_.2.2.2.2.2.2.2.2.2.2.2.2) (fun _ _ => rfl) (fun j_ => (n1 j_, stages1 j_, least1 j_, length1 j_, code j_, sum j_, v281 j_, v291 j_, v34 j_, v35 j_, c2 j_, best1 j_, periods j_)) n_ (fun j_ hi_ kx_ => hstep_ j_ hi_ _) (fun kx_ => hend_ _) fu_ hm_
def Q11_K4 (N : Nat) (least6 : Int) (best6 : List (List Int)) : Option Y8 :=
  some ((best6, least6), ())
def Q11_B3 (N : Nat) (kx : Int → Int → Int → Int → Int → Int → Y0 → Y1 → Option Y8) (n : Int) (stages : Int) (least : Int) (length : Int) (v28 : Int) (v29 : Int) (c1 : (List Int) × (List Int) × (List Int)) (best : List (List Int)) : Option Y8 :=
  bif ilt v29 v28 then
    chk (mkB stages 24) <|
    Q11_L2 N N kx n stages least length v29 0 v28 v29 n 0 c1 best (List.replicate stages.toNat ([] : List Int))
  else
    Q11_K4 N least best
def Q11_L3 (N fu_ : Nat) (n : Int) (stages : Int) (least : Int) (length : Int) (v28 : Int) (v29 : Int) (c1 : (List Int) × (List Int) × (List Int)) (best : List (List Int)) : Option Y8 :=
  iterK fu_ (fun kx (v_ : (Int × Int × Int × Int × Int × Int × Unit) × Y18) => Q11_B3 N (fun n stages least length v28 v29 c1 best => kx ((n, stages, least, length, v28, v29, ()), (c1, best, ()))) v_.1.1 v_.1.2.1 v_.1.2.2.1 v_.1.2.2.2.1 v_.1.2.2.2.2.1 v_.1.2.2.2.2.2.1 v_.2.1 v_.2.2.1) ((n, stages, least, length, v28, v29, ()), (c1, best, ()))
theorem Q11_L3_run (N : Nat) (n : Nat → Int) (stages : Nat → Int) (least : Nat → Int) (length : Nat → Int) (v28 : Nat → Int) (v29 : Nat → Int) (c1 : Nat → Y0) (best : Nat → Y1) (n_ : Nat) {res_ : Option Y8} (hstep_ : ∀ j_, j_ < n_ → ∀ kx_, Q11_B3 N kx_ (n j_) (stages j_) (least j_) (length j_) (v28 j_) (v29 j_) (c1 j_) (best j_) = kx_ (n (j_ + 1)) (stages (j_ + 1)) (least (j_ + 1)) (length (j_ + 1)) (v28 (j_ + 1)) (v29 (j_ + 1)) (c1 (j_ + 1)) (best (j_ + 1))) (hend_ : ∀ kx_, Q11_B3 N kx_ (n n_) (stages n_) (least n_) (length n_) (v28 n_) (v29 n_) (c1 n_) (best n_) = res_) (fu_ : Nat) (hm_ : n_ < fu_) : Q11_L3 N fu_ (n 0) (stages 0) (least 0) (length 0) (v28 0) (v29 0) (c1 0) (best 0) = res_ := by
  exact loop_run (L := fun fu_ (x_ : Int × Int × Int × Int × Int × Int × Y0 × Y1) => Q11_L3 N fu_ x_.1 x_.2.1 x_.2.2.1 x_.2.2.2.1 x_.2.2.2.2.1 x_.2.2.2.2.2.1 x_.2.2.2.2.2.2.1 x_.2.2.2.2.2.2.2) (B := fun kx_ x_ => Q11_B3 N (fun n stages least length v28 v29 c1 best => kx_ (n, stages, least, length, v28, v29, c1, best)) x_.1 x_.2.1 x_.2.2.1 x_.2.2.2.1 x_.2.2.2.2.1 x_.2.2.2.2.2.1 x_.2.2.2.2.2.2.1 x_.2.2.2.2.2.2.2) (fun _ _ => rfl) (fun j_ => (n j_, stages j_, least j_, length j_, v28 j_, v29 j_, c1 j_, best j_)) n_ (fun j_ hi_ kx_ => hstep_ j_ hi_ _) (fun kx_ => hend_ _) fu_ hm_
def Q11 (N : Nat) (c : (List Int) × (List Int) × (List Int)) : Option Y8 :=
  (Q24 N (iadd .i64 (len c.2.1) 1) (len c.1)).bind fun r =>
  Q11_L3 N N (len c.1) (len c.2.1) 1099511627776 0 r.1 0 c []
def Q4 (N : Nat) (c : (List Int) × (List Int) × (List Int)) : Option Y3 :=
  (Q16 N c).bind fun r =>
  bif !r.1 then
    some (([], false), ())
  else
    (Q11 N c).bind fun r1 =>
    some ((r1.1.1, true), ())
def Q72 (N : Nat) (c : (List Int) × (List Int) × (List Int)) (plan : List (List Int)) (stage : Int) (t : Int) : Option Y6 :=
  bif ilt (iadd .i64 stage 1) (len plan) then
    chk (inB (iadd .i64 stage 1) plan.length) <|
    chk (inB t (gd plan (iadd .i64 stage 1).toNat []).length) <|
    some (gd (gd plan (iadd .i64 stage 1).toNat []) t.toNat 0, ())
  else
    chk (inB t c.1.length) <|
    some (gd c.1 t.toNat 0, ())
def Q75_K1 (N : Nat) (kx : Y1 → Int → Y0 → Y1 → Option Y14) (plan3 : List (List Int)) (s2 : Int) (c3 : (List Int) × (List Int) × (List Int)) (out2 : List (List Int)) (row1 : List Int) : Option Y14 :=
  chk (fitB (out2.length + 1) 24) <|
  kx plan3 (iadd .i64 s2 1) c3 (out2 ++ [row1])
def Q75_B1 (N : Nat) (kx : Y1 → Int → Y0 → Y1 → Option Y14) (kx1 : Y1 → Int → Int → Int → Y0 → Y1 → (List Int) → Option Y14) (plan2 : List (List Int)) (s1 : Int) (now : Int) (t : Int) (c2 : (List Int) × (List Int) × (List Int)) (out1 : List (List Int)) (row : List Int) : Option Y14 :=
  bif ilt t (len c2.1) then
    chk (inB s1 plan2.length) <|
    chk (inB t (gd plan2 s1.toNat []).length) <|
    (Q72 N c2 plan2 s1 t).bind fun r =>
    chk (fitB (row.length + 1) 8) <|
    kx1 plan2 s1 (isub .i64 (iadd .i64 now (gd (gd plan2 s1.toNat []) t.toNat 0)) r.1) (iadd .i64 t 1) c2 out1 (row ++ [isub .i64 (iadd .i64 now (gd (gd plan2 s1.toNat []) t.toNat 0)) r.1])
  else
    Q75_K1 N kx plan2 s1 c2 out1 row
def Q75_L1 (N fu_ : Nat) (kx : Y1 → Int → Y0 → Y1 → Option Y14) (plan2 : List (List Int)) (s1 : Int) (now : Int) (t : Int) (c2 : (List Int) × (List Int) × (List Int)) (out1 : List (List Int)) (row : List Int) : Option Y14 :=
  iterK fu_ (fun kx1 (v_ : (Y1 × Int × Int × Int × Unit) × (Y0 × Y1 × (List Int) × Unit)) => Q75_B1 N kx (fun plan2 s1 now t c2 out1 row => kx1 ((plan2, s1, now, t, ()), (c2, out1, row, ()))) v_.1.1 v_.1.2.1 v_.1.2.2.1 v_.1.2.2.2.1 v_.2.1 v_.2.2.1 v_.2.2.2.1) ((plan2, s1, now, t, ()), (c2, out1, row, ()))
theorem Q75_L1_run (N : Nat) (kx : Y1 → Int → Y0 → Y1 → Option Y14) (plan2 : Nat → Y1) (s1 : Nat → Int) (now : Nat → Int) (t : Nat → Int) (c2 : Nat → Y0) (out1 : Nat → Y1) (row : Nat → (List Int)) (n_ : Nat) {res_ : Option Y14} (hstep_ : ∀ j_, j_ < n_ → ∀ kx_, Q75_B1 N kx kx_ (plan2 j_) (s1 j_) (now j_) (t j_) (c2 j_) (out1 j_) (row j_) = kx_ (plan2 (j_ + 1)) (s1 (j_ + 1)) (now (j_ + 1)) (t (j_ + 1)) (c2 (j_ + 1)) (out1 (j_ + 1)) (row (j_ + 1))) (hend_ : ∀ kx_, Q75_B1 N kx kx_ (plan2 n_) (s1 n_) (now n_) (t n_) (c2 n_) (out1 n_) (row n_) = res_) (fu_ : Nat) (hm_ : n_ < fu_) : Q75_L1 N fu_ kx (plan2 0) (s1 0) (now 0) (t 0) (c2 0) (out1 0) (row 0) = res_ := by
  exact loop_run (L := fun fu_ (x_ : Y1 × Int × Int × Int × Y0 × Y1 × (List Int)) => Q75_L1 N fu_ kx x_.1 x_.2.1 x_.2.2.1 x_.2.2.2.1 x_.2.2.2.2.1 x_.2.2.2.2.2.1 x_.2.2.2.2.2.2) (B := fun kx_ x_ => Q75_B1 N kx (fun plan2 s1 now t c2 out1 row => kx_ (plan2, s1, now, t, c2, out1, row)) x_.1 x_.2.1 x_.2.2.1 x_.2.2.2.1 x_.2.2.2.2.1 x_.2.2.2.2.2.1 x_.2.2.2.2.2.2) (fun _ _ => rfl) (fun j_ => (plan2 j_, s1 j_, now j_, t j_, c2 j_, out1 j_, row j_)) n_ (fun j_ hi_ kx_ => hstep_ j_ hi_ _) (fun kx_ => hend_ _) fu_ hm_
def Q75_K2 (N : Nat) (out3 : List (List Int)) : Option Y14 :=
  some (out3, ())
def Q75_B2 (N : Nat) (kx : Y1 → Int → Y0 → Y1 → Option Y14) (plan1 : List (List Int)) (s : Int) (c1 : (List Int) × (List Int) × (List Int)) (out : List (List Int)) : Option Y14 :=
  bif ilt s (len plan1) then
    Q75_L1 N N kx plan1 s 0 0 c1 out []
  else
    Q75_K2 N out
def Q75_L2 (N fu_ : Nat) (plan1 : List (List Int)) (s : Int) (c1 : (List Int) × (List Int) × (List Int)) (out : List (List Int)) : Option Y14 :=
  iterK fu_ (fun kx (v_ : (Y1 × Int × Unit) × Y18) => Q75_B2 N (fun plan1 s c1 out => kx ((plan1, s, ()), (c1, out, ()))) v_.1.1 v_.1.2.1 v_.2.1 v_.2.2.1) ((plan1, s, ()), (c1, out, ()))
theorem Q75_L2_run (N : Nat) (plan1 : Nat → Y1) (s : Nat → Int) (c1 : Nat → Y0) (out : Nat → Y1) (n_ : Nat) {res_ : Option Y14} (hstep_ : ∀ j_, j_ < n_ → ∀ kx_, Q75_B2 N kx_ (plan1 j_) (s j_) (c1 j_) (out j_) = kx_ (plan1 (j_ + 1)) (s (j_ + 1)) (c1 (j_ + 1)) (out (j_ + 1))) (hend_ : ∀ kx_, Q75_B2 N kx_ (plan1 n_) (s n_) (c1 n_) (out n_) = res_) (fu_ : Nat) (hm_ : n_ < fu_) : Q75_L2 N fu_ (plan1 0) (s 0) (c1 0) (out 0) = res_ := by
  exact loop_run (L := fun fu_ (x_ : Y1 × Int × Y0 × Y1) => Q75_L2 N fu_ x_.1 x_.2.1 x_.2.2.1 x_.2.2.2) (B := fun kx_ x_ => Q75_B2 N (fun plan1 s c1 out => kx_ (plan1, s, c1, out)) x_.1 x_.2.1 x_.2.2.1 x_.2.2.2) (fun _ _ => rfl) (fun j_ => (plan1 j_, s j_, c1 j_, out j_)) n_ (fun j_ hi_ kx_ => hstep_ j_ hi_ _) (fun kx_ => hend_ _) fu_ hm_
def Q75 (N : Nat) (c : (List Int) × (List Int) × (List Int)) (plan : List (List Int)) : Option Y14 :=
  Q75_L2 N N plan 0 c []
def Q66_K1 (N : Nat) (kx : Y1 → Int → Int → Y0 → Y1 → Option Y6) (plan3 : List (List Int)) (sum2 : Int) (s2 : Int) (c3 : (List Int) × (List Int) × (List Int)) (stocks2 : List (List Int)) : Option Y6 :=
  kx plan3 sum2 (iadd .i64 s2 1) c3 stocks2
def Q66_B1 (N : Nat) (kx : Y1 → Int → Int → Y0 → Y1 → Option Y6) (kx1 : Y1 → Int → Int → Int → Y0 → Y1 → Option Y6) (plan2 : List (List Int)) (sum1 : Int) (s1 : Int) (t : Int) (c2 : (List Int) × (List Int) × (List Int)) (stocks1 : List (List Int)) : Option Y6 :=
  bif ilt t (len c2.1) then
    chk (inB s1 c2.2.2.length) <|
    chk (inB s1 stocks1.length) <|
    chk (inB t (gd stocks1 s1.toNat []).length) <|
    chk (inB s1 plan2.length) <|
    chk (inB t (gd plan2 s1.toNat []).length) <|
    bif ilt 0 (gd (gd plan2 s1.toNat []) t.toNat 0) then
      chk (inB s1 c2.2.1.length) <|
      kx1 plan2 (iadd .i64 (iadd .i64 sum1 (imul .i64 (gd c2.2.2 s1.toNat 0) (gd (gd stocks1 s1.toNat []) t.toNat 0))) (gd c2.2.1 s1.toNat 0)) s1 (iadd .i64 t 1) c2 stocks1
    else
      kx1 plan2 (iadd .i64 sum1 (imul .i64 (gd c2.2.2 s1.toNat 0) (gd (gd stocks1 s1.toNat []) t.toNat 0))) s1 (iadd .i64 t 1) c2 stocks1
  else
    Q66_K1 N kx plan2 sum1 s1 c2 stocks1
def Q66_L1 (N fu_ : Nat) (kx : Y1 → Int → Int → Y0 → Y1 → Option Y6) (plan2 : List (List Int)) (sum1 : Int) (s1 : Int) (t : Int) (c2 : (List Int) × (List Int) × (List Int)) (stocks1 : List (List Int)) : Option Y6 :=
  iterK fu_ (fun kx1 (v_ : (Y1 × Int × Int × Int × Unit) × Y18) => Q66_B1 N kx (fun plan2 sum1 s1 t c2 stocks1 => kx1 ((plan2, sum1, s1, t, ()), (c2, stocks1, ()))) v_.1.1 v_.1.2.1 v_.1.2.2.1 v_.1.2.2.2.1 v_.2.1 v_.2.2.1) ((plan2, sum1, s1, t, ()), (c2, stocks1, ()))
theorem Q66_L1_run (N : Nat) (kx : Y1 → Int → Int → Y0 → Y1 → Option Y6) (plan2 : Nat → Y1) (sum1 : Nat → Int) (s1 : Nat → Int) (t : Nat → Int) (c2 : Nat → Y0) (stocks1 : Nat → Y1) (n_ : Nat) {res_ : Option Y6} (hstep_ : ∀ j_, j_ < n_ → ∀ kx_, Q66_B1 N kx kx_ (plan2 j_) (sum1 j_) (s1 j_) (t j_) (c2 j_) (stocks1 j_) = kx_ (plan2 (j_ + 1)) (sum1 (j_ + 1)) (s1 (j_ + 1)) (t (j_ + 1)) (c2 (j_ + 1)) (stocks1 (j_ + 1))) (hend_ : ∀ kx_, Q66_B1 N kx kx_ (plan2 n_) (sum1 n_) (s1 n_) (t n_) (c2 n_) (stocks1 n_) = res_) (fu_ : Nat) (hm_ : n_ < fu_) : Q66_L1 N fu_ kx (plan2 0) (sum1 0) (s1 0) (t 0) (c2 0) (stocks1 0) = res_ := by
  exact loop_run (L := fun fu_ (x_ : Y1 × Int × Int × Int × Y0 × Y1) => Q66_L1 N fu_ kx x_.1 x_.2.1 x_.2.2.1 x_.2.2.2.1 x_.2.2.2.2.1 x_.2.2.2.2.2) (B := fun kx_ x_ => Q66_B1 N kx (fun plan2 sum1 s1 t c2 stocks1 => kx_ (plan2, sum1, s1, t, c2, stocks1)) x_.1 x_.2.1 x_.2.2.1 x_.2.2.2.1 x_.2.2.2.2.1 x_.2.2.2.2.2) (fun _ _ => rfl) (fun j_ => (plan2 j_, sum1 j_, s1 j_, t j_, c2 j_, stocks1 j_)) n_ (fun j_ hi_ kx_ => hstep_ j_ hi_ _) (fun kx_ => hend_ _) fu_ hm_
def Q66_K2 (N : Nat) (sum3 : Int) : Option Y6 :=
  some (sum3, ())
def Q66_B2 (N : Nat) (kx : Y1 → Int → Int → Y0 → Y1 → Option Y6) (plan1 : List (List Int)) (sum : Int) (s : Int) (c1 : (List Int) × (List Int) × (List Int)) (stocks : List (List Int)) : Option Y6 :=
  bif ilt s (len plan1) then
    Q66_L1 N N kx plan1 sum s 0 c1 stocks
  else
    Q66_K2 N sum
def Q66_L2 (N fu_ : Nat) (plan1 : List (List Int)) (sum : Int) (s : Int) (c1 : (List Int) × (List Int) × (List Int)) (stocks : List (List Int)) : Option Y6 :=
  iterK fu_ (fun kx (v_ : (Y1 × Int × Int × Unit) × Y18) => Q66_B2 N (fun plan1 sum s c1 stocks => kx ((plan1, sum, s, ()), (c1, stocks, ()))) v_.1.1 v_.1.2.1 v_.1.2.2.1 v_.2.1 v_.2.2.1) ((plan1, sum, s, ()), (c1, stocks, ()))
theorem Q66_L2_run (N : Nat) (plan1 : Nat → Y1) (sum : Nat → Int) (s : Nat → Int) (c1 : Nat → Y0) (stocks : Nat → Y1) (n_ : Nat) {res_ : Option Y6} (hstep_ : ∀ j_, j_ < n_ → ∀ kx_, Q66_B2 N kx_ (plan1 j_) (sum j_) (s j_) (c1 j_) (stocks j_) = kx_ (plan1 (j_ + 1)) (sum (j_ + 1)) (s (j_ + 1)) (c1 (j_ + 1)) (stocks (j_ + 1))) (hend_ : ∀ kx_, Q66_B2 N kx_ (plan1 n_) (sum n_) (s n_) (c1 n_) (stocks n_) = res_) (fu_ : Nat) (hm_ : n_ < fu_) : Q66_L2 N fu_ (plan1 0) (sum 0) (s 0) (c1 0) (stocks 0) = res_ := by
  exact loop_run (L := fun fu_ (x_ : Y1 × Int × Int × Y0 × Y1) => Q66_L2 N fu_ x_.1 x_.2.1 x_.2.2.1 x_.2.2.2.1 x_.2.2.2.2) (B := fun kx_ x_ => Q66_B2 N (fun plan1 sum s c1 stocks => kx_ (plan1, sum, s, c1, stocks)) x_.1 x_.2.1 x_.2.2.1 x_.2.2.2.1 x_.2.2.2.2) (fun _ _ => rfl) (fun j_ => (plan1 j_, sum j_, s j_, c1 j_, stocks j_)) n_ (fun j_ hi_ kx_ => hstep_ j_ hi_ _) (fun kx_ => hend_ _) fu_ hm_
def Q66 (N : Nat) (c : (List Int) × (List Int) × (List Int)) (plan : List (List Int)) : Option Y6 :=
  (Q75 N c plan).bind fun r =>
  Q66_L2 N N plan 0 0 c r.1
def Q71_K1 (N : Nat) (many1 : Int) : Option Y6 :=
  some (many1, ())
def Q71_B1 (N : Nat) (kx : Y1 → Int → Int → Option Y6) (lists1 : List (List Int)) (many : Int) (i : Int) : Option Y6 :=
  bif ilt i (len lists1) then
    chk (inB i lists1.length) <|
    kx lists1 (iadd .i64 many (len (gd lists1 i.toNat []))) (iadd .i64 i 1)
  else
    Q71_K1 N many
def Q71_L1 (N fu_ : Nat) (lists1 : List (List Int)) (many : Int) (i : Int) : Option Y6 :=
  iterK fu_ (fun kx (v_ : (Y1 × Int × Int × Unit) × (Unit)) => Q71_B1 N (fun lists1 many i => kx ((lists1, many, i, ()), ())) v_.1.1 v_.1.2.1 v_.1.2.2.1) ((lists1, many, i, ()), ())
theorem Q71_L1_succ (N fu_ : Nat) (lists1 : List (List Int)) (many : Int) (i : Int) : Q71_L1 N (fu_ + 1) lists1 many i = Q71_B1 N (fun lists1 many i => Q71_L1 N fu_ lists1 many i) lists1 many i := rfl
theorem Q71_L1_run (N : Nat) (lists1 : Nat → Y1) (many : Nat → Int) (i : Nat → Int) (n_ : Nat) {res_ : Option Y6} (hstep_ : ∀ j_, j_ < n_ → ∀ kx_, Q71_B1 N kx_ (lists1 j_) (many j_) (i j_) = kx_ (lists1 (j_ + 1)) (many (j_ + 1)) (i (j_ + 1))) (hend_ : ∀ kx_, Q71_B1 N kx_ (lists1 n_) (many n_) (i n_) = res_) (fu_ : Nat) (hm_ : n_ < fu_) : Q71_L1 N fu_ (lists1 0) (many 0) (i 0) = res_ := by
  exact loop_run (L := fun fu_ (x_ : Y1 × Int × Int) => Q71_L1 N fu_ x_.1 x_.2.1 x_.2.2) (B := fun kx_ x_ => Q71_B1 N (fun lists1 many i => kx_ (lists1, many, i)) x_.1 x_.2.1 x_.2.2) (fun _ _ => rfl) (fun j_ => (lists1 j_, many j_, i j_)) n_ (fun j_ hi_ kx_ => hstep_ j_ hi_ _) (fun kx_ => hend_ _) fu_ hm_
def Q71 (N : Nat) (lists : List (List Int)) : Option Y6 :=
  Q71_L1 N N lists 0 0
def Q70_K1 (N : Nat) (kx : Y1 → Y1 → Int → Option Y4) (a3 : List (List Int)) (b3 : List (List Int)) (s2 : Int) : Option Y4 :=
  chk (inB s2 a3.length) <|
  chk (inB s2 b3.length) <|
  bif ine (len (gd a3 s2.toNat [])) (len (gd b3 s2.toNat [])) then
    chk (inB s2 a3.length) <|
    chk (inB s2 b3.length) <|
    some (ilt (len (gd a3 s2.toNat [])) (len (gd b3 s2.toNat [])), ())
  else
    kx a3 b3 (iadd .i64 s2 1)
def Q70_B1 (N : Nat) (kx : Y1 → Y1 → Int → Option Y4) (kx1 : Y1 → Y1 → Int → Int → Option Y4) (a2 : List (List Int)) (b2 : List (List Int)) (s1 : Int) (i : Int) : Option Y4 :=
  chk (inB s1 a2.length) <|
  bif ilt i (len (gd a2 s1.toNat [])) then
    chk (inB s1 b2.length) <|
    bif ilt i (len (gd b2 s1.toNat [])) then
      chk (inB s1 a2.length) <|
      chk (inB i (gd a2 s1.toNat []).length) <|
      chk (inB s1 b2.length) <|
      chk (inB i (gd b2 s1.toNat []).length) <|
      bif ine (gd (gd a2 s1.toNat []) i.toNat 0) (gd (gd b2 s1.toNat []) i.toNat 0) then
        chk (inB s1 a2.length) <|
        chk (inB i (gd a2 s1.toNat []).length) <|
        chk (inB s1 b2.length) <|
        chk (inB i (gd b2 s1.toNat []).length) <|
        some (ilt (gd (gd a2 s1.toNat []) i.toNat 0) (gd (gd b2 s1.toNat []) i.toNat 0), ())
      else
        kx1 a2 b2 s1 (iadd .i64 i 1)
    else
      Q70_K1 N kx a2 b2 s1
  else
    Q70_K1 N kx a2 b2 s1
def Q70_L1 (N fu_ : Nat) (kx : Y1 → Y1 → Int → Option Y4) (a2 : List (List Int)) (b2 : List (List Int)) (s1 : Int) (i : Int) : Option Y4 :=
  iterK fu_ (fun kx1 (v_ : (Y1 × Y1 × Int × Int × Unit) × (Unit)) => Q70_B1 N kx (fun a2 b2 s1 i => kx1 ((a2, b2, s1, i, ()), ())) v_.1.1 v_.1.2.1 v_.1.2.2.1 v_.1.2.2.2.1) ((a2, b2, s1, i, ()), ())
theorem Q70_L1_succ (N fu_ : Nat) (kx : Y1 → Y1 → Int → Option Y4) (a2 : List (List Int)) (b2 : List (List Int)) (s1 : Int) (i : Int) : Q70_L1 N (fu_ + 1) kx a2 b2 s1 i = Q70_B1 N kx (fun a2 b2 s1 i => Q70_L1 N fu_ kx a2 b2 s1 i) a2 b2 s1 i := rfl
def Q70_K2 (N : Nat) : Option Y4 :=
  some (false, ())
def Q70_B2 (N : Nat) (kx : Y1 → Y1 → Int → Option Y4) (a1 : List (List Int)) (b1 : List (List Int)) (s : Int) : Option Y4 :=
  bif ilt s (len a1) then
    Q70_L1 N N kx a1 b1 s 0
  else
    Q70_K2 N
def Q70_L2 (N fu_ : Nat) (a1 : List (List Int)) (b1 : List (List Int)) (s : Int) : Option Y4 :=
  iterK fu_ (fun kx (v_ : (Y1 × Y1 × Int × Unit) × (Unit)) => Q70_B2 N (fun a1 b1 s => kx ((a1, b1, s, ()), ())) v_.1.1 v_.1.2.1 v_.1.2.2.1) ((a1, b1, s, ()), ())
theorem Q70_L2_succ (N fu_ : Nat) (a1 : List (List Int)) (b1 : List (List Int)) (s : Int) : Q70_L2 N (fu_ + 1) a1 b1 s = Q70_B2 N (fun a1 b1 s => Q70_L2 N fu_ a1 b1 s) a1 b1 s := rfl
def Q70 (N : Nat) (a : List (List Int)) (b : List (List Int)) : Option Y4 :=
  Q70_L2 N N a b 0
def Q76_K1 (N : Nat) (kr_ : Y0 → Y1 → Y9 → Option Y20) (best2 : Y1 × Int × Bool) (v61 : Y1 × Int × Bool) : Option Y20 :=
  some (best2, ())
def Q76_B1 (N : Nat) (kr_ : Y0 → Y1 → Y9 → Option Y20) (kx : Y1 → Int → Y0 → Y9 → Y9 → Option Y20) (last1 : List (List Int)) (code : Int) (c1 : (List Int) × (List Int) × (List Int)) (best1 : Y1 × Int × Bool) (v6 : Y1 × Int × Bool) : Option Y20 :=
  chk (ile 0 (len c1.1)) <|
  bif ilt code (ishl .i64 1 (len c1.1)) then
    (Q55 N (len c1.1) code).bind fun r5 =>
    bif ieq (len last1) 0 then
      chk (fitB (1 + last1.length) 24) <|
      (kr_ c1 ([r5.1] ++ last1) best1).bind fun r7 =>
      kx last1 (iadd .i64 code 1) c1 r7.1 v6
    else
      chk (inB 0 last1.length) <|
      (Q77 N r5.1 (gd last1 0 [])).bind fun r6 =>
      bif r6.1 then
        chk (fitB (1 + last1.length) 24) <|
        (kr_ c1 ([r5.1] ++ last1) best1).bind fun r8 =>
        kx last1 (iadd .i64 code 1) c1 r8.1 v6
      else
        kx last1 (iadd .i64 code 1) c1 best1 v6
  else
    Q76_K1 N kr_ best1 v6
def Q76_L1 (N : Nat) (kr_ : Y0 → Y1 → Y9 → Option Y20) (fu_ : Nat) (last1 : List (List Int)) (code : Int) (c1 : (List Int) × (List Int) × (List Int)) (best1 : Y1 × Int × Bool) (v6 : Y1 × Int × Bool) : Option Y20 :=
  iterK fu_ (fun kx (v_ : (Y1 × Int × Unit) × (Y0 × Y9 × Y9 × Unit)) => Q76_B1 N kr_ (fun last1 code c1 best1 v6 => kx ((last1, code, ()), (c1, best1, v6, ()))) v_.1.1 v_.1.2.1 v_.2.1 v_.2.2.1 v_.2.2.2.1) ((last1, code, ()), (c1, best1, v6, ()))
theorem Q76_L1_run (N : Nat) (kr_ : Y0 → Y1 → Y9 → Option Y20) (last1 : Nat → Y1) (code : Nat → Int) (c1 : Nat → Y0) (best1 : Nat → Y9) (v6 : Nat → Y9) (n_ : Nat) {res_ : Option Y20} (hstep_ : ∀ j_, j_ < n_ → ∀ kx_, Q76_B1 N kr_ kx_ (last1 j_) (code j_) (c1 j_) (best1 j_) (v6 j_) = kx_ (last1 (j_ + 1)) (code (j_ + 1)) (c1 (j_ + 1)) (best1 (j_ + 1)) (v6 (j_ + 1))) (hend_ : ∀ kx_, Q76_B1 N kr_ kx_ (last1 n_) (code n_) (c1 n_) (best1 n_) (v6 n_) = res_) (fu_ : Nat) (hm_ : n_ < fu_) : Q76_L1 N kr_ fu_ (last1 0) (code 0) (c1 0) (best1 0) (v6 0) = res_ := by
  exact loop_run (L := fun fu_ (x_ : Y1 × Int × Y0 × Y9 × Y9) => Q76_L1 N kr_ fu_ x_.1 x_.2.1 x_.2.2.1 x_.2.2.2.1 x_.2.2.2.2) (B := fun kx_ x_ => Q76_B1 N kr_ (fun last1 code c1 best1 v6 => kx_ (last1, code, c1, best1, v6)) x_.1 x_.2.1 x_.2.2.1 x_.2.2.2.1 x_.2.2.2.2) (fun _ _ => rfl) (fun j_ => (last1 j_, code j_, c1 j_, best1 j_, v6 j_)) n_ (fun j_ hi_ kx_ => hstep_ j_ hi_ _) (fun kx_ => hend_ _) fu_ hm_
def Q76_F (N : Nat) (kr_ : Y0 → Y1 → Y9 → Option Y20) (c : (List Int) × (List Int) × (List Int)) (last : List (List Int)) (best : Y1 × Int × Bool) : Option Y20 :=
  bif ieq (len last) (len c.2.1) then
    (Q45 N c last).bind fun r =>
    bif !r.1.2 then
      some (best, ())
    else
      (Q66 N c r.1.1).bind fun r1 =>
      (Q71 N last).bind fun r2 =>
      (Q71 N best.1).bind fun r3 =>
      bif !best.2.2 then
        some ((last, (r1.1, true)), ())
      else
        bif ilt r1.1 best.2.1 then
          some ((last, (r1.1, true)), ())
        else
          bif ieq r1.1 best.2.1 then
            bif ilt r2.1 r3.1 then
              some ((last, (r1.1, true)), ())
            else
              bif ieq r2.1 r3.1 then
                (Q70 N last best.1).bind fun r4 =>
                bif r4.1 then
                  some ((last, (r1.1, true)), ())
                else
                  some (best, ())
              else
                some (best, ())
          else
            some (best, ())
  else
    Q76_L1 N kr_ N last 0 c best ([], (0, false))
def Q76_R (N : Nat) : Nat → Y0 → Y1 → Y9 → Option Y20
  | 0 => fun _ _ _ => none
  | k_ + 1 => Q76_F N (Q76_R N k_)
theorem Q76_R_succ (N k_ : Nat) (c : (List Int) × (List Int) × (List Int)) (last : List (List Int)) (best : Y1 × Int × Bool) : Q76_R N (k_ + 1) c last best = Q76_F N (Q76_R N k_) c last best := rfl
def Q76 (N : Nat) (c : (List Int) × (List Int) × (List Int)) (last : List (List Int)) (best : Y1 × Int × Bool) : Option Y20 := Q76_R N N c last best
def Q50 (N : Nat) (l : List Int) : Option Y7 :=
  chk (fitB (0 + l.length) 8) <|
  some (l, ())
def Q43_K1 (N : Nat) (out1 : List (List Int)) : Option Y3 :=
  some ((out1, true), ())
def Q43_B1 (N : Nat) (kx : Y1 → Int → Y1 → Option Y3) (best : List (List Int)) (s : Int) (out : List (List Int)) : Option Y3 :=
  bif ilt s (len best) then
    chk (inB s best.length) <|
    (Q50 N (gd best s.toNat [])).bind fun r2 =>
    chk (fitB (out.length + 1) 24) <|
    kx best (iadd .i64 s 1) (out ++ [r2.1])
  else
    Q43_K1 N out
def Q43_L1 (N fu_ : Nat) (best : List (List Int)) (s : Int) (out : List (List Int)) : Option Y3 :=
  iterK fu_ (fun kx (v_ : (Y1 × Int × Unit) × Y14) => Q43_B1 N (fun best s out => kx ((best, s, ()), (out, ()))) v_.1.1 v_.1.2.1 v_.2.1) ((best, s, ()), (out, ()))
theorem Q43_L1_run (N : Nat) (best : Nat → Y1) (s : Nat → Int) (out : Nat → Y1) (n_ : Nat) {res_ : Option Y3} (hstep_ : ∀ j_, j_ < n_ → ∀ kx_, Q43_B1 N kx_ (best j_) (s j_) (out j_) = kx_ (best (j_ + 1)) (s (j_ + 1)) (out (j_ + 1))) (hend_ : ∀ kx_, Q43_B1 N kx_ (best n_) (s n_) (out n_) = res_) (fu_ : Nat) (hm_ : n_ < fu_) : Q43_L1 N fu_ (best 0) (s 0) (out 0) = res_ := by
  exact loop_run (L := fun fu_ (x_ : Y1 × Int × Y1) => Q43_L1 N fu_ x_.1 x_.2.1 x_.2.2) (B := fun kx_ x_ => Q43_B1 N (fun best s out => kx_ (best, s, out)) x_.1 x_.2.1 x_.2.2) (fun _ _ => rfl) (fun j_ => (best j_, s j_, out j_)) n_ (fun j_ hi_ kx_ => hstep_ j_ hi_ _) (fun kx_ => hend_ _) fu_ hm_
def Q43 (N : Nat) (c : (List Int) × (List Int) × (List Int)) : Option Y3 :=
  (Q69 N c).bind fun r =>
  bif !r.1 then
    some (([], false), ())
  else
    (Q76 N c [] ([], (0, false))).bind fun r1 =>
    Q43_L1 N N r1.1.1 0 []
def Q3 (N : Nat) (c : (List Int) × (List Int) × (List Int)) : Option ((Int × Bool) × Unit) :=
  (Q16 N c).bind fun r =>
  bif !r.1 then
    some ((0, false), ())
  else
    (Q11 N c).bind fun r1 =>
    some ((r1.1.2, true), ())
def Q68_K1 (N : Nat) (kr_ : Y0 → Int → Int → Int → Int → Option Y6) (kx : Int → Int → Int → Int → Int → Int → Y0 → Option Y6) (stage3 : Int) (t3 : Int) (a3 : Int) (b3 : Int) (best2 : Int) (split2 : Int) (cost1 : Int) (c3 : (List Int) × (List Int) × (List Int)) : Option Y6 :=
  bif ilt best2 0 then
    kx stage3 t3 a3 b3 cost1 (iadd .i64 split2 1) c3
  else
    bif ilt cost1 best2 then
      kx stage3 t3 a3 b3 cost1 (iadd .i64 split2 1) c3
    else
      kx stage3 t3 a3 b3 best2 (iadd .i64 split2 1) c3
def Q68_K2 (N : Nat) (kr_ : Y0 → Int → Int → Int → Int → Option Y6) (kx : Int → Int → Int → Int → Int → Int → Y0 → Option Y6) (stage2 : Int) (t2 : Int) (a2 : Int) (b2 : Int) (best1 : Int) (split1 : Int) (cost : Int) (c2 : (List Int) × (List Int) × (List Int)) : Option Y6 :=
  chk (cutB split1 b2 c2.1.length) <|
  (Q63 N (cut c2.1 split1 b2)).bind fun r3 =>
  bif ilt 0 r3.1 then
    bif ilt split1 (iadd .i64 t2 1) then
      kx stage2 t2 a2 b2 best1 (iadd .i64 split1 1) c2
    else
      chk (inB stage2 c2.2.2.length) <|
      (kr_ c2 stage2 (iadd .i64 t2 1) split1 b2).bind fun r4 =>
      Q68_K1 N kr_ kx stage2 t2 a2 b2 best1 split1 (iadd .i64 (iadd .i64 cost (imul .i64 (gd c2.2.2 stage2.toNat 0) r3.1)) r4.1) c2
  else
    Q68_K1 N kr_ kx stage2 t2 a2 b2 best1 split1 cost c2
def Q68_K3 (N : Nat) (kr_ : Y0 → Int → Int → Int → Int → Option Y6) (best3 : Int) : Option Y6 :=
  some (best3, ())
def Q68_B1 (N : Nat) (kr_ : Y0 → Int → Int → Int → Int → Option Y6) (kx : Int → Int → Int → Int → Int → Int → Y0 → Option Y6) (stage1 : Int) (t1 : Int) (a1 : Int) (b1 : Int) (best : Int) (split : Int) (c1 : (List Int) × (List Int) × (List Int)) : Option Y6 :=
  bif ile split b1 then
    bif ilt (iadd .i64 stage1 1) (len c1.2.1) then
      chk (cutB a1 split c1.1.length) <|
      (Q63 N (cut c1.1 a1 split)).bind fun r1 =>
      bif ilt 0 r1.1 then
        chk (inB (iadd .i64 stage1 1) c1.2.1.length) <|
        (kr_ c1 (iadd .i64 stage1 1) t1 a1 split).bind fun r2 =>
        Q68_K2 N kr_ kx stage1 t1 a1 b1 best split (iadd .i64 (gd c1.2.1 (iadd .i64 stage1 1).toNat 0) r2.1) c1
      else
        Q68_K2 N kr_ kx stage1 t1 a1 b1 best split 0 c1
    else
      bif ilt (iadd .i64 a1 1) split then
        kx stage1 t1 a1 b1 best (iadd .i64 split 1) c1
      else
        bif ilt a1 split then
          bif ilt t1 a1 then
            kx stage1 t1 a1 b1 best (iadd .i64 split 1) c1
          else
            bif ieq split a1 then
              bif ieq a1 t1 then
                kx stage1 t1 a1 b1 best (iadd .i64 split 1) c1
              else
                Q68_K2 N kr_ kx stage1 t1 a1 b1 best split 0 c1
            else
              Q68_K2 N kr_ kx stage1 t1 a1 b1 best split 0 c1
        else
          bif ieq split a1 then
            bif ieq a1 t1 then
              kx stage1 t1 a1 b1 best (iadd .i64 split 1) c1
            else
              Q68_K2 N kr_ kx stage1 t1 a1 b1 best split 0 c1
          else
            Q68_K2 N kr_ kx stage1 t1 a1 b1 best split 0 c1
  else
    Q68_K3 N kr_ best
def Q68_L1 (N : Nat) (kr_ : Y0 → Int → Int → Int → Int → Option Y6) (fu_ : Nat) (stage1 : Int) (t1 : Int) (a1 : Int) (b1 : Int) (best : Int) (split : Int) (c1 : (List Int) × (List Int) × (List Int)) : Option Y6 :=
  iterK fu_ (fun kx (v_ : (Int × Int × Int × Int × Int × Int × Unit) × (Y0 × Unit)) => Q68_B1 N kr_ (fun stage1 t1 a1 b1 best split c1 => kx ((stage1, t1, a1, b1, best, split, ()), (c1, ()))) v_.1.1 v_.1.2.1 v_.1.2.2.1 v_.1.2.2.2.1 v_.1.2.2.2.2.1 v_.1.2.2.2.2.2.1 v_.2.1) ((stage1, t1, a1, b1, best, split, ()), (c1, ()))
theorem Q68_L1_run (N : Nat) (kr_ : Y0 → Int → Int → Int → Int → Option Y6) (stage1 : Nat → Int) (t1 : Nat → Int) (a1 : Nat → Int) (b1 : Nat → Int) (best : Nat → Int) (split : Nat → Int) (c1 : Nat → Y0) (n_ : Nat) {res_ : Option Y6} (hstep_ : ∀ j_, j_ < n_ → ∀ kx_, Q68_B1 N kr_ kx_ (stage1 j_) (t1 j_) (a1 j_) (b1 j_) (best j_) (split j_) (c1 j_) = kx_ (stage1 (j_ + 1)) (t1 (j_ + 1)) (a1 (j_ + 1)) (b1 (j_ + 1)) (best (j_ + 1)) (split (j_ + 1)) (c1 (j_ + 1))) (hend_ : ∀ kx_, Q68_B1 N kr_ kx_ (stage1 n_) (t1 n_) (a1 n_) (b1 n_) (best n_) (split n_) (c1 n_) = res_) (fu_ : Nat) (hm_ : n_ < fu_) : Q68_L1 N kr_ fu_ (stage1 0) (t1 0) (a1 0) (b1 0) (best 0) (split 0) (c1 0) = res_ := by
  exact loop_run (L := fun fu_ (x_ : Int × Int × Int × Int × Int × Int × Y0) => Q68_L1 N kr_ fu_ x_.1 x_.2.1 x_.2.2.1 x_.2.2.2.1 x_.2.2.2.2.1 x_.2.2.2.2.2.1 x_.2.2.2.2.2.2) (B := fun kx_ x_ => Q68_B1 N kr_ (fun stage1 t1 a1 b1 best split c1 => kx_ (stage1, t1, a1, b1, best, split, c1)) x_.1 x_.2.1 x_.2.2.1 x_.2.2.2.1 x_.2.2.2.2.1 x_.2.2.2.2.2.1 x_.2.2.2.2.2.2) (fun _ _ => rfl) (fun j_ => (stage1 j_, t1 j_, a1 j_, b1 j_, best j_, split j_, c1 j_)) n_ (fun j_ hi_ kx_ => hstep_ j_ hi_ _) (fun kx_ => hend_ _) fu_ hm_
def Q68_F (N : Nat) (kr_ : Y0 → Int → Int → Int → Int → Option Y6) (c : (List Int) × (List Int) × (List Int)) (stage : Int) (t : Int) (a : Int) (b : Int) : Option Y6 :=
  chk (cutB a b c.1.length) <|
  (Q63 N (cut c.1 a b)).bind fun r =>
  bif ieq r.1 0 then
    some (0, ())
  else
    Q68_L1 N kr_ N stage t a b (-1) a c
def Q68_R (N : Nat) : Nat → Y0 → Int → Int → Int → Int → Option Y6
  | 0 => fun _ _ _ _ _ => none
  | k_ + 1 => Q68_F N (Q68_R N k_)
theorem Q68_R_succ (N k_ : Nat) (c : (List Int) × (List Int) × (List Int)) (stage : Int) (t : Int) (a : Int) (b : Int) : Q68_R N (k_ + 1) c stage t a b = Q68_F N (Q68_R N k_) c stage t a b := rfl
def Q68 (N : Nat) (c : (List Int) × (List Int) × (List Int)) (stage : Int) (t : Int) (a : Int) (b : Int) : Option Y6 := Q68_R N N c stage t a b
def Q64_K1 (N : Nat) (kx : Int → Int → Y0 → (List Int) → Option Y6) (n2 : Int) (a2 : Int) (c3 : (List Int) × (List Int) × (List Int)) (out2 : List Int) : Option Y6 :=
  kx n2 (isub .i64 a2 1) c3 out2
def Q64_B1 (N : Nat) (kx : Int → Int → Y0 → (List Int) → Option Y6) (kx1 : Int → Int → Int → Y0 → (List Int) → Option Y6) (n1 : Int) (a1 : Int) (b : Int) (c2 : (List Int) × (List Int) × (List Int)) (out1 : List Int) : Option Y6 :=
  bif ile b n1 then
    chk (inB 0 c2.2.1.length) <|
    (Q68 N c2 0 a1 a1 b).bind fun r =>
    chk (inB b out1.length) <|
    chk (inB a1 out1.length) <|
    bif ilt (gd out1 a1.toNat 0) 0 then
      chk (inB a1 out1.length) <|
      kx1 n1 a1 (iadd .i64 b 1) c2 (List.set out1 a1.toNat (iadd .i64 (iadd .i64 (gd c2.2.1 0 0) r.1) (gd out1 b.toNat 0)))
    else
      chk (inB a1 out1.length) <|
      bif ilt (iadd .i64 (iadd .i64 (gd c2.2.1 0 0) r.1) (gd out1 b.toNat 0)) (gd out1 a1.toNat 0) then
        chk (inB a1 out1.length) <|
        kx1 n1 a1 (iadd .i64 b 1) c2 (List.set out1 a1.toNat (iadd .i64 (iadd .i64 (gd c2.2.1 0 0) r.1) (gd out1 b.toNat 0)))
      else
        kx1 n1 a1 (iadd .i64 b 1) c2 out1
  else
    Q64_K1 N kx n1 a1 c2 out1
def Q64_L1 (N fu_ : Nat) (kx : Int → Int → Y0 → (List Int) → Option Y6) (n1 : Int) (a1 : Int) (b : Int) (c2 : (List Int) × (List Int) × (List Int)) (out1 : List Int) : Option Y6 :=
  iterK fu_ (fun kx1 (v_ : (Int × Int × Int × Unit) × (Y0 × (List Int) × Unit)) => Q64_B1 N kx (fun n1 a1 b c2 out1 => kx1 ((n1, a1, b, ()), (c2, out1, ()))) v_.1.1 v_.1.2.1 v_.1.2.2.1 v_.2.1 v_.2.2.1) ((n1, a1, b, ()), (c2, out1, ()))
theorem Q64_L1_run (N : Nat) (kx : Int → Int → Y0 → (List Int) → Option Y6) (n1 : Nat → Int) (a1 : Nat → Int) (b : Nat → Int) (c2 : Nat → Y0) (out1 : Nat → (List Int)) (n_ : Nat) {res_ : Option Y6} (hstep_ : ∀ j_, j_ < n_ → ∀ kx_, Q64_B1 N kx kx_ (n1 j_) (a1 j_) (b j_) (c2 j_) (out1 j_) = kx_ (n1 (j_ + 1)) (a1 (j_ + 1)) (b (j_ + 1)) (c2 (j_ + 1)) (out1 (j_ + 1))) (hend_ : ∀ kx_, Q64_B1 N kx kx_ (n1 n_) (a1 n_) (b n_) (c2 n_) (out1 n_) = res_) (fu_ : Nat) (hm_ : n_ < fu_) : Q64_L1 N fu_ kx (n1 0) (a1 0) (b 0) (c2 0) (out1 0) = res_ := by
  exact loop_run (L := fun fu_ (x_ : Int × Int × Int × Y0 × (List Int)) => Q64_L1 N fu_ kx x_.1 x_.2.1 x_.2.2.1 x_.2.2.2.1 x_.2.2.2.2) (B := fun kx_ x_ => Q64_B1 N kx (fun n1 a1 b c2 out1 => kx_ (n1, a1, b, c2, out1)) x_.1 x_.2.1 x_.2.2.1 x_.2.2.2.1 x_.2.2.2.2) (fun _ _ => rfl) (fun j_ => (n1 j_, a1 j_, b j_, c2 j_, out1 j_)) n_ (fun j_ hi_ kx_ => hstep_ j_ hi_ _) (fun kx_ => hend_ _) fu_ hm_
def Q64_K2 (N : Nat) (out3 : List Int) : Option Y6 :=
  chk (inB 0 out3.length) <|
  some (gd out3 0 0, ())
def Q64_B2 (N : Nat) (kx : Int → Int → Y0 → (List Int) → Option Y6) (n : Int) (a : Int) (c1 : (List Int) × (List Int) × (List Int)) (out : List Int) : Option Y6 :=
  bif ile 0 a then
    chk (inB a c1.1.length) <|
    bif ieq (gd c1.1 a.toNat 0) 0 then
      chk (inB (iadd .i64 a 1) out.length) <|
      chk (inB a out.length) <|
      kx n (isub .i64 a 1) c1 (List.set out a.toNat (gd out (iadd .i64 a 1).toNat 0))
    else
      chk (inB a out.length) <|
      Q64_L1 N N kx n a (iadd .i64 a 1) c1 (List.set out a.toNat (-1))
  else
    Q64_K2 N out
def Q64_L2 (N fu_ : Nat) (n : Int) (a : Int) (c1 : (List Int) × (List Int) × (List Int)) (out : List Int) : Option Y6 :=
  iterK fu_ (fun kx (v_ : (Int × Int × Unit) × (Y0 × (List Int) × Unit)) => Q64_B2 N (fun n a c1 out => kx ((n, a, ()), (c1, out, ()))) v_.1.1 v_.1.2.1 v_.2.1 v_.2.2.1) ((n, a, ()), (c1, out, ()))
theorem Q64_L2_run (N : Nat) (n : Nat → Int) (a : Nat → Int) (c1 : Nat → Y0) (out : Nat → (List Int)) (n_ : Nat) {res_ : Option Y6} (hstep_ : ∀ j_, j_ < n_ → ∀ kx_, Q64_B2 N kx_ (n j_) (a j_) (c1 j_) (out j_) = kx_ (n (j_ + 1)) (a (j_ + 1)) (c1 (j_ + 1)) (out (j_ + 1))) (hend_ : ∀ kx_, Q64_B2 N kx_ (n n_) (a n_) (c1 n_) (out n_) = res_) (fu_ : Nat) (hm_ : n_ < fu_) : Q64_L2 N fu_ (n 0) (a 0) (c1 0) (out 0) = res_ := by
  exact loop_run (L := fun fu_ (x_ : Int × Int × Y0 × (List Int)) => Q64_L2 N fu_ x_.1 x_.2.1 x_.2.2.1 x_.2.2.2) (B := fun kx_ x_ => Q64_B2 N (fun n a c1 out => kx_ (n, a, c1, out)) x_.1 x_.2.1 x_.2.2.1 x_.2.2.2) (fun _ _ => rfl) (fun j_ => (n j_, a j_, c1 j_, out j_)) n_ (fun j_ hi_ kx_ => hstep_ j_ hi_ _) (fun kx_ => hend_ _) fu_ hm_
def Q64 (N : Nat) (c : (List Int) × (List Int) × (List Int)) : Option Y6 :=
  chk (mkB (iadd .i64 (len c.1) 1) 8) <|
  Q64_L2 N N (len c.1) (isub .i64 (len c.1) 1) c (List.replicate (iadd .i64 (len c.1) 1).toNat 0)
def Q42 (N : Nat) (c : (List Int) × (List Int) × (List Int)) : Option ((Int × Bool) × Unit) :=
  (Q69 N c).bind fun r =>
  bif !r.1 then
    some ((0, false), ())
  else
    (Q64 N c).bind fun r1 =>
    some ((r1.1, true), ())
def Q8_K1 (N : Nat) (kx : Int → Int → Int → Int → (List Int) → Int → Int → Y2 → Option Y13) (setups1 : Int) (units1 : Int) (holds1 : Int) (stock1 : Int) (i : Int) (amount : Int) (v131 : List Int) (v141 : Int) (v151 : Int) (c2 : (List Int) × (List Int) × (List Int) × (List Int)) : Option Y13 :=
  chk (inB i c2.2.2.1.length) <|
  chk (inB i c2.2.2.2.length) <|
  kx setups1 (iadd .i64 units1 (imul .i64 (gd c2.2.2.1 i.toNat 0) amount)) (iadd .i64 holds1 (imul .i64 (gd c2.2.2.2 i.toNat 0) stock1)) stock1 v131 v141 (iadd .i64 v151 1) c2
def Q8_K2 (N : Nat) (setups2 : Int) (units2 : Int) (holds2 : Int) : Option Y13 :=
  some ((setups2, (units2, holds2)), ())
def Q8_B1 (N : Nat) (kx : Int → Int → Int → Int → (List Int) → Int → Int → Y2 → Option Y13) (setups : Int) (units : Int) (holds : Int) (stock : Int) (v13 : List Int) (v14 : Int) (v15 : Int) (c1 : (List Int) × (List Int) × (List Int) × (List Int)) : Option Y13 :=
  bif ilt v15 v14 then
    chk (inB v15 v13.length) <|
    chk (inB v15 c1.1.length) <|
    bif ilt 0 (gd v13 v15.toNat 0) then
      chk (inB v15 c1.2.1.length) <|
      Q8_K1 N kx (iadd .i64 setups (gd c1.2.1 v15.toNat 0)) units holds (iadd .i64 stock (isub .i64 (gd v13 v15.toNat 0) (gd c1.1 v15.toNat 0))) v15 (gd v13 v15.toNat 0) v13 v14 v15 c1
    else
      Q8_K1 N kx setups units holds (iadd .i64 stock (isub .i64 (gd v13 v15.toNat 0) (gd c1.1 v15.toNat 0))) v15 (gd v13 v15.toNat 0) v13 v14 v15 c1
  else
    Q8_K2 N setups units holds
def Q8_L1 (N fu_ : Nat) (setups : Int) (units : Int) (holds : Int) (stock : Int) (v13 : List Int) (v14 : Int) (v15 : Int) (c1 : (List Int) × (List Int) × (List Int) × (List Int)) : Option Y13 :=
  iterK fu_ (fun kx (v_ : (Int × Int × Int × Int × (List Int) × Int × Int × Unit) × Y16) => Q8_B1 N (fun setups units holds stock v13 v14 v15 c1 => kx ((setups, units, holds, stock, v13, v14, v15, ()), (c1, ()))) v_.1.1 v_.1.2.1 v_.1.2.2.1 v_.1.2.2.2.1 v_.1.2.2.2.2.1 v_.1.2.2.2.2.2.1 v_.1.2.2.2.2.2.2.1 v_.2.1) ((setups, units, holds, stock, v13, v14, v15, ()), (c1, ()))
theorem Q8_L1_run (N : Nat) (setups : Nat → Int) (units : Nat → Int) (holds : Nat → Int) (stock : Nat → Int) (v13 : Nat → (List Int)) (v14 : Nat → Int) (v15 : Nat → Int) (c1 : Nat → Y2) (n_ : Nat) {res_ : Option Y13} (hstep_ : ∀ j_, j_ < n_ → ∀ kx_, Q8_B1 N kx_ (setups j_) (units j_) (holds j_) (stock j_) (v13 j_) (v14 j_) (v15 j_) (c1 j_) = kx_ (setups (j_ + 1)) (units (j_ + 1)) (holds (j_ + 1)) (stock (j_ + 1)) (v13 (j_ + 1)) (v14 (j_ + 1)) (v15 (j_ + 1)) (c1 (j_ + 1))) (hend_ : ∀ kx_, Q8_B1 N kx_ (setups n_) (units n_) (holds n_) (stock n_) (v13 n_) (v14 n_) (v15 n_) (c1 n_) = res_) (fu_ : Nat) (hm_ : n_ < fu_) : Q8_L1 N fu_ (setups 0) (units 0) (holds 0) (stock 0) (v13 0) (v14 0) (v15 0) (c1 0) = res_ := by
  exact loop_run (L := fun fu_ (x_ : Int × Int × Int × Int × (List Int) × Int × Int × Y2) => Q8_L1 N fu_ x_.1 x_.2.1 x_.2.2.1 x_.2.2.2.1 x_.2.2.2.2.1 x_.2.2.2.2.2.1 x_.2.2.2.2.2.2.1 x_.2.2.2.2.2.2.2) (B := fun kx_ x_ => Q8_B1 N (fun setups units holds stock v13 v14 v15 c1 => kx_ (setups, units, holds, stock, v13, v14, v15, c1)) x_.1 x_.2.1 x_.2.2.1 x_.2.2.2.1 x_.2.2.2.2.1 x_.2.2.2.2.2.1 x_.2.2.2.2.2.2.1 x_.2.2.2.2.2.2.2) (fun _ _ => rfl) (fun j_ => (setups j_, units j_, holds j_, stock j_, v13 j_, v14 j_, v15 j_, c1 j_)) n_ (fun j_ hi_ kx_ => hstep_ j_ hi_ _) (fun kx_ => hend_ _) fu_ hm_
def Q8 (N : Nat) (c : (List Int) × (List Int) × (List Int) × (List Int)) (plan : List Int) : Option Y13 :=
  Q8_L1 N N 0 0 0 0 plan (len plan) 0 c
def Q7 (N : Nat) (c : (List Int) × (List Int) × (List Int) × (List Int)) (plan : List Int) : Option Y6 :=
  (Q8 N c plan).bind fun r =>
  some (iadd .i64 (iadd .i64 r.1.1 r.1.2.1) r.1.2.2, ())
def Q6_K1 (N : Nat) (kx : Int → Int → Int → Y2 → (List Int) → Option Y10) (least3 : Int) (cost : Int) (before : Bool) (v163 : Int) (v173 : Int) (c4 : (List Int) × (List Int) × (List Int) × (List Int)) (best3 : List Int) (periods2 : List Int) : Option Y10 :=
  bif ilt least3 0 then
    kx cost v163 (iadd .i64 v173 1) c4 periods2
  else
    bif ilt cost least3 then
      kx cost v163 (iadd .i64 v173 1) c4 periods2
    else
      bif ieq cost least3 then
        bif before then
          kx cost v163 (iadd .i64 v173 1) c4 periods2
        else
          kx least3 v163 (iadd .i64 v173 1) c4 best3
      else
        kx least3 v163 (iadd .i64 v173 1) c4 best3
def Q6_K2 (N : Nat) (kx : Int → Int → Int → Y2 → (List Int) → Option Y10) (least2 : Int) (v162 : Int) (v172 : Int) (c3 : (List Int) × (List Int) × (List Int) × (List Int)) (best2 : List Int) (periods1 : List Int) : Option Y10 :=
  (Q9 N c3 periods1).bind fun r =>
  bif !r.1.2 then
    kx least2 v162 (iadd .i64 v172 1) c3 best2
  else
    (Q7 N c3 r.1.1).bind fun r1 =>
    bif ilt (len periods1) (len best2) then
      Q6_K1 N kx least2 r1.1 true v162 v172 c3 best2 periods1
    else
      bif ieq (len periods1) (len best2) then
        (Q38 N periods1 best2).bind fun r2 =>
        Q6_K1 N kx least2 r1.1 (ilt r2.1 0) v162 v172 c3 best2 periods1
      else
        Q6_K1 N kx least2 r1.1 false v162 v172 c3 best2 periods1
def Q6_B1 (N : Nat) (kx : Int → Int → Int → Y2 → (List Int) → Option Y10) (kx1 : Int → Int → Int → Int → Int → Int → Y2 → (List Int) → (List Int) → Option Y10) (least1 : Int) (setx : Int) (v161 : Int) (v171 : Int) (v23 : Int) (v24 : Int) (c2 : (List Int) × (List Int) × (List Int) × (List Int)) (best1 : List Int) (periods : List Int) : Option Y10 :=
  bif ilt v24 v23 then
    chk (ile 0 v24) <|
    bif ieq (iand .i64 (ishr .i64 setx v24) 1) 1 then
      chk (fitB (periods.length + 1) 8) <|
      kx1 least1 setx v161 v171 v23 (iadd .i64 v24 1) c2 best1 (periods ++ [v24])
    else
      kx1 least1 setx v161 v171 v23 (iadd .i64 v24 1) c2 best1 periods
  else
    Q6_K2 N kx least1 v161 v171 c2 best1 periods
def Q6_L1 (N fu_ : Nat) (kx : Int → Int → Int → Y2 → (List Int) → Option Y10) (least1 : Int) (setx : Int) (v161 : Int) (v171 : Int) (v23 : Int) (v24 : Int) (c2 : (List Int) × (List Int) × (List Int) × (List Int)) (best1 : List Int) (periods : List Int) : Option Y10 :=
  iterK fu_ (fun kx1 (v_ : (Int × Int × Int × Int × Int × Int × Unit) × (Y2 × (List Int) × (List Int) × Unit)) => Q6_B1 N kx (fun least1 setx v161 v171 v23 v24 c2 best1 periods => kx1 ((least1, setx, v161, v171, v23, v24, ()), (c2, best1, periods, ()))) v_.1.1 v_.1.2.1 v_.1.2.2.1 v_.1.2.2.2.1 v_.1.2.2.2.2.1 v_.1.2.2.2.2.2.1 v_.2.1 v_.2.2.1 v_.2.2.2.1) ((least1, setx, v161, v171, v23, v24, ()), (c2, best1, periods, ()))
theorem Q6_L1_run (N : Nat) (kx : Int → Int → Int → Y2 → (List Int) → Option Y10) (least1 : Nat → Int) (setx : Nat → Int) (v161 : Nat → Int) (v171 : Nat → Int) (v23 : Nat → Int) (v24 : Nat → Int) (c2 : Nat → Y2) (best1 : Nat → (List Int)) (periods : Nat → (List Int)) (n_ : Nat) {res_ : Option Y10} (hstep_ : ∀ j_, j_ < n_ → ∀ kx_, Q6_B1 N kx kx_ (least1 j_) (setx j_) (v161 j_) (v171 j_) (v23 j_) (v24 j_) (c2 j_) (best1 j_) (periods j_) = kx_ (least1 (j_ + 1)) (setx (j_ + 1)) (v161 (j_ + 1)) (v171 (j_ + 1)) (v23 (j_ + 1)) (v24 (j_ + 1)) (c2 (j_ + 1)) (best1 (j_ + 1)) (periods (j_ + 1))) (hend_ : ∀ kx_, Q6_B1 N kx kx_ (least1 n_) (setx n_) (v161 n_) (v171 n_) (v23 n_) (v24 n_) (c2 n_) (best1 n_) (periods n_) = res_) (fu_ : Nat) (hm_ : n_ < fu_) : Q6_L1 N fu_ kx (least1 0) (setx 0) (v161 0) (v171 0) (v23 0) (v24 0) (c2 0) (best1 0) (periods 0) = res_ := by
  exact loop_run (L := fun fu_ (x_ : Int × Int × Int × Int × Int × Int × Y2 × (List Int) × (List Int)) => Q6_L1 N fu_ kx x_.1 x_.2.1 x_.2.2.1 x_.2.2.2.1 x_.2.2.2.2.1 x_.2.2.2.2.2.1 x_.2.2.2.2.2.2.1 x_.2.2.2.2.2.2.2.1 x_.2.2.2.2.2.2.2.2) (B := fun kx_ x_ => Q6_B1 N kx (fun least1 setx v161 v171 v23 v24 c2 best1 periods => kx_ (least1, setx, v161, v171, v23, v24, c2, best1, periods)) x_.1 x_.2.1 x_.2.2.1 x_.2.2.2.1 x_.2.2.2.2.1 x_.2.2.2.2.2.1 x_.2.2.2.2.2.2.1 x_.2.2.2.2.2.2.2.1 x_.2.2.2.2.2.2.2.2) (fun _ _ => rfl) (fun j_ => (least1 j_, setx j_, v161 j_, v171 j_, v23 j_, v24 j_, c2 j_, best1 j_, periods j_)) n_ (fun j_ hi_ kx_ => hstep_ j_ hi_ _) (fun kx_ => hend_ _) fu_ hm_
def Q6_K3 (N : Nat) (least4 : Int) (best4 : List Int) : Option Y10 :=
  some ((best4, least4), ())
def Q6_B2 (N : Nat) (kx : Int → Int → Int → Y2 → (List Int) → Option Y10) (least : Int) (v16 : Int) (v17 : Int) (c1 : (List Int) × (List Int) × (List Int) × (List Int)) (best : List Int) : Option Y10 :=
  bif ilt v17 v16 then
    Q6_L1 N N kx least v17 v16 v17 (len c1.1) 0 c1 best []
  else
    Q6_K3 N least best
def Q6_L2 (N fu_ : Nat) (least : Int) (v16 : Int) (v17 : Int) (c1 : (List Int) × (List Int) × (List Int) × (List Int)) (best : List Int) : Option Y10 :=
  iterK fu_ (fun kx (v_ : (Int × Int × Int × Unit) × (Y2 × (List Int) × Unit)) => Q6_B2 N (fun least v16 v17 c1 best => kx ((least, v16, v17, ()), (c1, best, ()))) v_.1.1 v_.1.2.1 v_.1.2.2.1 v_.2.1 v_.2.2.1) ((least, v16, v17, ()), (c1, best, ()))
theorem Q6_L2_run (N : Nat) (least : Nat → Int) (v16 : Nat → Int) (v17 : Nat → Int) (c1 : Nat → Y2) (best : Nat → (List Int)) (n_ : Nat) {res_ : Option Y10} (hstep_ : ∀ j_, j_ < n_ → ∀ kx_, Q6_B2 N kx_ (least j_) (v16 j_) (v17 j_) (c1 j_) (best j_) = kx_ (least (j_ + 1)) (v16 (j_ + 1)) (v17 (j_ + 1)) (c1 (j_ + 1)) (best (j_ + 1))) (hend_ : ∀ kx_, Q6_B2 N kx_ (least n_) (v16 n_) (v17 n_) (c1 n_) (best n_) = res_) (fu_ : Nat) (hm_ : n_ < fu_) : Q6_L2 N fu_ (least 0) (v16 0) (v17 0) (c1 0) (best 0) = res_ := by
  exact loop_run (L := fun fu_ (x_ : Int × Int × Int × Y2 × (List Int)) => Q6_L2 N fu_ x_.1 x_.2.1 x_.2.2.1 x_.2.2.2.1 x_.2.2.2.2) (B := fun kx_ x_ => Q6_B2 N (fun least v16 v17 c1 best => kx_ (least, v16, v17, c1, best)) x_.1 x_.2.1 x_.2.2.1 x_.2.2.2.1 x_.2.2.2.2) (fun _ _ => rfl) (fun j_ => (least j_, v16 j_, v17 j_, c1 j_, best j_)) n_ (fun j_ hi_ kx_ => hstep_ j_ hi_ _) (fun kx_ => hend_ _) fu_ hm_
def Q6 (N : Nat) (c : (List Int) × (List Int) × (List Int) × (List Int)) : Option Y10 :=
  chk (ile 0 (len c.1)) <|
  Q6_L2 N N (-1) (ishl .i64 1 (len c.1)) 0 c []
def Q19_B1 (N : Nat) (kx : Nat → Int → Y0 → Y1 → Option Y3) (needi : Nat) (stage : Int) (c1 : (List Int) × (List Int) × (List Int)) (out : List (List Int)) : Option Y3 :=
  bif ile 0 stage then
    (Q20 N (gd out needi []) 0 20).bind fun r5 =>
    bif !r5.1 then
      some (([], false), ())
    else
      chk (inB stage c1.2.1.length) <|
      chk (inB stage c1.2.2.length) <|
      (Q22 N (gd out needi []) (gd c1.2.1 stage.toNat 0) (gd c1.2.2 stage.toNat 0)).bind fun r6 =>
      (Q6 N r6.1).bind fun r7 =>
      (Q9 N r6.1 r7.1.1).bind fun r8 =>
      chk (inB stage out.length) <|
      chk (inB stage (List.set out stage.toNat r8.1.1).length) <|
      kx stage.toNat (isub .i64 stage 1) c1 (List.set out stage.toNat r8.1.1)
  else
    some ((out, true), ())
def Q19_L1 (N fu_ : Nat) (needi : Nat) (stage : Int) (c1 : (List Int) × (List Int) × (List Int)) (out : List (List Int)) : Option Y3 :=
  iterK fu_ (fun kx (v_ : (Nat × Int × Unit) × Y18) => Q19_B1 N (fun needi stage c1 out => kx ((needi, stage, ()), (c1, out, ()))) v_.1.1 v_.1.2.1 v_.2.1 v_.2.2.1) ((needi, stage, ()), (c1, out, ()))
theorem Q19_L1_run (N : Nat) (needi : Nat → Nat) (stage : Nat → Int) (c1 : Nat → Y0) (out : Nat → Y1) (n_ : Nat) {res_ : Option Y3} (hstep_ : ∀ j_, j_ < n_ → ∀ kx_, Q19_B1 N kx_ (needi j_) (stage j_) (c1 j_) (out j_) = kx_ (needi (j_ + 1)) (stage (j_ + 1)) (c1 (j_ + 1)) (out (j_ + 1))) (hend_ : ∀ kx_, Q19_B1 N kx_ (needi n_) (stage n_) (c1 n_) (out n_) = res_) (fu_ : Nat) (hm_ : n_ < fu_) : Q19_L1 N fu_ (needi 0) (stage 0) (c1 0) (out 0) = res_ := by
  exact loop_run (L := fun fu_ (x_ : Nat × Int × Y0 × Y1) => Q19_L1 N fu_ x_.1 x_.2.1 x_.2.2.1 x_.2.2.2) (B := fun kx_ x_ => Q19_B1 N (fun needi stage c1 out => kx_ (needi, stage, c1, out)) x_.1 x_.2.1 x_.2.2.1 x_.2.2.2) (fun _ _ => rfl) (fun j_ => (needi j_, stage j_, c1 j_, out j_)) n_ (fun j_ hi_ kx_ => hstep_ j_ hi_ _) (fun kx_ => hend_ _) fu_ hm_
def Q19 (N : Nat) (c : (List Int) × (List Int) × (List Int)) : Option Y3 :=
  (Q16 N c).bind fun r =>
  bif !r.1 then
    some (([], false), ())
  else
    chk (mkB (len c.2.1) 24) <|
    bif ile 0 (isub .i64 (len (List.replicate (len c.2.1).toNat ([] : List Int))) 1) then
      (Q20 N c.1 0 20).bind fun r1 =>
      bif !r1.1 then
        some (([], false), ())
      else
        chk (inB (isub .i64 (len (List.replicate (len c.2.1).toNat ([] : List Int))) 1) c.2.1.length) <|
        chk (inB (isub .i64 (len (List.replicate (len c.2.1).toNat ([] : List Int))) 1) c.2.2.length) <|
        (Q22 N c.1 (gd c.2.1 (isub .i64 (len (List.replicate (len c.2.1).toNat ([] : List Int))) 1).toNat 0) (gd c.2.2 (isub .i64 (len (List.replicate (len c.2.1).toNat ([] : List Int))) 1).toNat 0)).bind fun r2 =>
        (Q6 N r2.1).bind fun r3 =>
        (Q9 N r2.1 r3.1.1).bind fun r4 =>
        chk (inB (isub .i64 (len (List.replicate (len c.2.1).toNat ([] : List Int))) 1) (List.replicate (len c.2.1).toNat ([] : List Int)).length) <|
        chk (inB (isub .i64 (len (List.replicate (len c.2.1).toNat ([] : List Int))) 1) (List.set (List.replicate (len c.2.1).toNat ([] : List Int)) (isub .i64 (len (List.replicate (len c.2.1).toNat ([] : List Int))) 1).toNat r4.1.1).length) <|
        Q19_L1 N N (isub .i64 (len (List.replicate (len c.2.1).toNat ([] : List Int))) 1).toNat (isub .i64 (isub .i64 (len (List.replicate (len c.2.1).toNat ([] : List Int))) 1) 1) c (List.set (List.replicate (len c.2.1).toNat ([] : List Int)) (isub .i64 (len (List.replicate (len c.2.1).toNat ([] : List Int))) 1).toNat r4.1.1)
    else
      some ((List.replicate (len c.2.1).toNat ([] : List Int), true), ())
def Q65_K1 (N : Nat) (v61 : (List Int) × (List Int) × (List Int) × (List Int)) (out1 : (List Int) × (List Int) × (List Int) × (List Int)) : Option Y16 :=
  some (out1, ())
def Q65_B1 (N : Nat) (kx : (List Int) → Int → Int → Int → Y2 → Y2 → Option Y16) (need1 : List Int) (setup1 : Int) (hold1 : Int) (t : Int) (v6 : (List Int) × (List Int) × (List Int) × (List Int)) (out : (List Int) × (List Int) × (List Int) × (List Int)) : Option Y16 :=
  bif ilt t (len need1) then
    chk (inB t need1.length) <|
    chk (fitB (out.1.length + 1) 8) <|
    chk (fitB (out.2.1.length + 1) 8) <|
    chk (fitB (out.2.2.1.length + 1) 8) <|
    chk (fitB (out.2.2.2.length + 1) 8) <|
    kx need1 setup1 hold1 (iadd .i64 t 1) v6 (out.1 ++ [gd need1 t.toNat 0], (out.2.1 ++ [setup1], (out.2.2.1 ++ [0], out.2.2.2 ++ [hold1])))
  else
    Q65_K1 N v6 out
def Q65_L1 (N fu_ : Nat) (need1 : List Int) (setup1 : Int) (hold1 : Int) (t : Int) (v6 : (List Int) × (List Int) × (List Int) × (List Int)) (out : (List Int) × (List Int) × (List Int) × (List Int)) : Option Y16 :=
  iterK fu_ (fun kx (v_ : Y21 × (Y2 × Y2 × Unit)) => Q65_B1 N (fun need1 setup1 hold1 t v6 out => kx ((need1, setup1, hold1, t, ()), (v6, out, ()))) v_.1.1 v_.1.2.1 v_.1.2.2.1 v_.1.2.2.2.1 v_.2.1 v_.2.2.1) ((need1, setup1, hold1, t, ()), (v6, out, ()))
theorem Q65_L1_run (N : Nat) (need1 : Nat → (List Int)) (setup1 : Nat → Int) (hold1 : Nat → Int) (t : Nat → Int) (v6 : Nat → Y2) (out : Nat → Y2) (n_ : Nat) {res_ : Option Y16} (hstep_ : ∀ j_, j_ < n_ → ∀ kx_, Q65_B1 N kx_ (need1 j_) (setup1 j_) (hold1 j_) (t j_) (v6 j_) (out j_) = kx_ (need1 (j_ + 1)) (setup1 (j_ + 1)) (hold1 (j_ + 1)) (t (j_ + 1)) (v6 (j_ + 1)) (out (j_ + 1))) (hend_ : ∀ kx_, Q65_B1 N kx_ (need1 n_) (setup1 n_) (hold1 n_) (t n_) (v6 n_) (out n_) = res_) (fu_ : Nat) (hm_ : n_ < fu_) : Q65_L1 N fu_ (need1 0) (setup1 0) (hold1 0) (t 0) (v6 0) (out 0) = res_ := by
  exact loop_run (L := fun fu_ (x_ : (List Int) × Int × Int × Int × Y2 × Y2) => Q65_L1 N fu_ x_.1 x_.2.1 x_.2.2.1 x_.2.2.2.1 x_.2.2.2.2.1 x_.2.2.2.2.2) (B := fun kx_ x_ => Q65_B1 N (fun need1 setup1 hold1 t v6 out => kx_ (need1, setup1, hold1, t, v6, out)) x_.1 x_.2.1 x_.2.2.1 x_.2.2.2.1 x_.2.2.2.2.1 x_.2.2.2.2.2) (fun _ _ => rfl) (fun j_ => (need1 j_, setup1 j_, hold1 j_, t j_, v6 j_, out j_)) n_ (fun j_ hi_ kx_ => hstep_ j_ hi_ _) (fun kx_ => hend_ _) fu_ hm_
def Q65 (N : Nat) (need : List Int) (setup : Int) (hold : Int) : Option Y16 :=
  Q65_L1 N N need setup hold 0 ([], ([], ([], []))) ([], ([], ([], [])))
def Q59 (N : Nat) (c : (List Int) × (List Int) × (List Int) × (List Int)) : Option Y4 :=
  bif ile (len c.1) 8 then
    (Q61 N c.1 (len c.1) 20).bind fun r =>
    bif r.1 then
      (Q61 N c.2.1 (len c.1) 99).bind fun r1 =>
      bif r1.1 then
        (Q61 N c.2.2.1 (len c.1) 9).bind fun r2 =>
        bif r2.1 then
          (Q61 N c.2.2.2 (len c.1) 9).bind fun r3 =>
          some (r3.1, ())
        else
          some (false, ())
      else
        some (false, ())
    else
      some (false, ())
  else
    some (false, ())
def Q58_K1 (N : Nat) (kx : (List Int) → Int → Y2 → (List Int) → Option Y7) (periods2 : List Int) (i1 : Int) (to : Int) (c2 : (List Int) × (List Int) × (List Int) × (List Int)) (out1 : List Int) : Option Y7 :=
  chk (inB i1 periods2.length) <|
  chk (inB i1 periods2.length) <|
  chk (cutB (gd periods2 i1.toNat 0) to c2.1.length) <|
  (Q63 N (cut c2.1 (gd periods2 i1.toNat 0) to)).bind fun r =>
  chk (inB (gd periods2 i1.toNat 0) out1.length) <|
  kx periods2 (iadd .i64 i1 1) c2 (List.set out1 (gd periods2 i1.toNat 0).toNat r.1)
def Q58_K2 (N : Nat) (out2 : List Int) : Option Y7 :=
  some (out2, ())
def Q58_B1 (N : Nat) (kx : (List Int) → Int → Y2 → (List Int) → Option Y7) (periods1 : List Int) (i : Int) (c1 : (List Int) × (List Int) × (List Int) × (List Int)) (out : List Int) : Option Y7 :=
  bif ilt i (len periods1) then
    bif ilt (iadd .i64 i 1) (len periods1) then
      chk (inB (iadd .i64 i 1) periods1.length) <|
      Q58_K1 N kx periods1 i (gd periods1 (iadd .i64 i 1).toNat 0) c1 out
    else
      Q58_K1 N kx periods1 i (len c1.1) c1 out
  else
    Q58_K2 N out
def Q58_L1 (N fu_ : Nat) (periods1 : List Int) (i : Int) (c1 : (List Int) × (List Int) × (List Int) × (List Int)) (out : List Int) : Option Y7 :=
  iterK fu_ (fun kx (v_ : Y22 × (Y2 × (List Int) × Unit)) => Q58_B1 N (fun periods1 i c1 out => kx ((periods1, i, ()), (c1, out, ()))) v_.1.1 v_.1.2.1 v_.2.1 v_.2.2.1) ((periods1, i, ()), (c1, out, ()))
theorem Q58_L1_run (N : Nat) (periods1 : Nat → (List Int)) (i : Nat → Int) (c1 : Nat → Y2) (out : Nat → (List Int)) (n_ : Nat) {res_ : Option Y7} (hstep_ : ∀ j_, j_ < n_ → ∀ kx_, Q58_B1 N kx_ (periods1 j_) (i j_) (c1 j_) (out j_) = kx_ (periods1 (j_ + 1)) (i (j_ + 1)) (c1 (j_ + 1)) (out (j_ + 1))) (hend_ : ∀ kx_, Q58_B1 N kx_ (periods1 n_) (i n_) (c1 n_) (out n_) = res_) (fu_ : Nat) (hm_ : n_ < fu_) : Q58_L1 N fu_ (periods1 0) (i 0) (c1 0) (out 0) = res_ := by
  exact loop_run (L := fun fu_ (x_ : (List Int) × Int × Y2 × (List Int)) => Q58_L1 N fu_ x_.1 x_.2.1 x_.2.2.1 x_.2.2.2) (B := fun kx_ x_ => Q58_B1 N (fun periods1 i c1 out => kx_ (periods1, i, c1, out)) x_.1 x_.2.1 x_.2.2.1 x_.2.2.2) (fun _ _ => rfl) (fun j_ => (periods1 j_, i j_, c1 j_, out j_)) n_ (fun j_ hi_ kx_ => hstep_ j_ hi_ _) (fun kx_ => hend_ _) fu_ hm_
def Q58 (N : Nat) (c : (List Int) × (List Int) × (List Int) × (List Int)) (periods : List Int) : Option Y7 :=
  chk (mkB (len c.1) 8) <|
  Q58_L1 N N periods 0 c (List.replicate (len c.1).toNat 0)
def Q57_K1 (N : Nat) : Option Y4 :=
  some (true, ())
def Q57_B1 (N : Nat) (kx : (List Int) → Int → Y2 → Option Y4) (periods1 : List Int) (t : Int) (c1 : (List Int) × (List Int) × (List Int) × (List Int)) : Option Y4 :=
  bif ilt t (len c1.1) then
    bif ilt 0 (len periods1) then
      chk (inB 0 periods1.length) <|
      bif ile (gd periods1 0 0) t then
        some (true, ())
      else
        chk (inB t c1.1.length) <|
        bif ilt 0 (gd c1.1 t.toNat 0) then
          some (false, ())
        else
          kx periods1 (iadd .i64 t 1) c1
    else
      chk (inB t c1.1.length) <|
      bif ilt 0 (gd c1.1 t.toNat 0) then
        some (false, ())
      else
        kx periods1 (iadd .i64 t 1) c1
  else
    Q57_K1 N
def Q57_L1 (N fu_ : Nat) (periods1 : List Int) (t : Int) (c1 : (List Int) × (List Int) × (List Int) × (List Int)) : Option Y4 :=
  iterK fu_ (fun kx (v_ : Y22 × Y16) => Q57_B1 N (fun periods1 t c1 => kx ((periods1, t, ()), (c1, ()))) v_.1.1 v_.1.2.1 v_.2.1) ((periods1, t, ()), (c1, ()))
theorem Q57_L1_run (N : Nat) (periods1 : Nat → (List Int)) (t : Nat → Int) (c1 : Nat → Y2) (n_ : Nat) {res_ : Option Y4} (hstep_ : ∀ j_, j_ < n_ → ∀ kx_, Q57_B1 N kx_ (periods1 j_) (t j_) (c1 j_) = kx_ (periods1 (j_ + 1)) (t (j_ + 1)) (c1 (j_ + 1))) (hend_ : ∀ kx_, Q57_B1 N kx_ (periods1 n_) (t n_) (c1 n_) = res_) (fu_ : Nat) (hm_ : n_ < fu_) : Q57_L1 N fu_ (periods1 0) (t 0) (c1 0) = res_ := by
  exact loop_run (L := fun fu_ (x_ : (List Int) × Int × Y2) => Q57_L1 N fu_ x_.1 x_.2.1 x_.2.2) (B := fun kx_ x_ => Q57_B1 N (fun periods1 t c1 => kx_ (periods1, t, c1)) x_.1 x_.2.1 x_.2.2) (fun _ _ => rfl) (fun j_ => (periods1 j_, t j_, c1 j_)) n_ (fun j_ hi_ kx_ => hstep_ j_ hi_ _) (fun kx_ => hend_ _) fu_ hm_
def Q57 (N : Nat) (c : (List Int) × (List Int) × (List Int) × (List Int)) (periods : List Int) : Option Y4 :=
  Q57_L1 N N periods 0 c
def Q62_K1 (N : Nat) (out1 : List Int) : Option Y7 :=
  some (out1, ())
def Q62_B1 (N : Nat) (kx : (List Int) → Int → Int → Y2 → (List Int) → Option Y7) (plan1 : List Int) (now : Int) (t : Int) (c1 : (List Int) × (List Int) × (List Int) × (List Int)) (out : List Int) : Option Y7 :=
  bif ilt t (len plan1) then
    chk (inB t plan1.length) <|
    chk (inB t c1.1.length) <|
    chk (fitB (out.length + 1) 8) <|
    kx plan1 (isub .i64 (iadd .i64 now (gd plan1 t.toNat 0)) (gd c1.1 t.toNat 0)) (iadd .i64 t 1) c1 (out ++ [isub .i64 (iadd .i64 now (gd plan1 t.toNat 0)) (gd c1.1 t.toNat 0)])
  else
    Q62_K1 N out
def Q62_L1 (N fu_ : Nat) (plan1 : List Int) (now : Int) (t : Int) (c1 : (List Int) × (List Int) × (List Int) × (List Int)) (out : List Int) : Option Y7 :=
  iterK fu_ (fun kx (v_ : ((List Int) × Int × Int × Unit) × (Y2 × (List Int) × Unit)) => Q62_B1 N (fun plan1 now t c1 out => kx ((plan1, now, t, ()), (c1, out, ()))) v_.1.1 v_.1.2.1 v_.1.2.2.1 v_.2.1 v_.2.2.1) ((plan1, now, t, ()), (c1, out, ()))
theorem Q62_L1_run (N : Nat) (plan1 : Nat → (List Int)) (now : Nat → Int) (t : Nat → Int) (c1 : Nat → Y2) (out : Nat → (List Int)) (n_ : Nat) {res_ : Option Y7} (hstep_ : ∀ j_, j_ < n_ → ∀ kx_, Q62_B1 N kx_ (plan1 j_) (now j_) (t j_) (c1 j_) (out j_) = kx_ (plan1 (j_ + 1)) (now (j_ + 1)) (t (j_ + 1)) (c1 (j_ + 1)) (out (j_ + 1))) (hend_ : ∀ kx_, Q62_B1 N kx_ (plan1 n_) (now n_) (t n_) (c1 n_) (out n_) = res_) (fu_ : Nat) (hm_ : n_ < fu_) : Q62_L1 N fu_ (plan1 0) (now 0) (t 0) (c1 0) (out 0) = res_ := by
  exact loop_run (L := fun fu_ (x_ : (List Int) × Int × Int × Y2 × (List Int)) => Q62_L1 N fu_ x_.1 x_.2.1 x_.2.2.1 x_.2.2.2.1 x_.2.2.2.2) (B := fun kx_ x_ => Q62_B1 N (fun plan1 now t c1 out => kx_ (plan1, now, t, c1, out)) x_.1 x_.2.1 x_.2.2.1 x_.2.2.2.1 x_.2.2.2.2) (fun _ _ => rfl) (fun j_ => (plan1 j_, now j_, t j_, c1 j_, out j_)) n_ (fun j_ hi_ kx_ => hstep_ j_ hi_ _) (fun kx_ => hend_ _) fu_ hm_
def Q62 (N : Nat) (c : (List Int) × (List Int) × (List Int) × (List Int)) (plan : List Int) : Option Y7 :=
  Q62_L1 N N plan 0 0 c []
def Q60_K1 (N : Nat) (kx : (List Int) → Int → Y2 → (List Int) → (List Int) → (List Int) → Option Y7) (plan2 : List Int) (t1 : Int) (c2 : (List Int) × (List Int) × (List Int) × (List Int)) (v41 : List Int) (out1 : List Int) (stocks1 : List Int) : Option Y7 :=
  chk (inB 1 3) <|
  chk (inB t1 c2.2.2.1.length) <|
  chk (inB t1 plan2.length) <|
  chk (inB 1 3) <|
  chk (inB 2 3) <|
  chk (inB t1 c2.2.2.2.length) <|
  chk (inB t1 stocks1.length) <|
  chk (inB 2 3) <|
  kx plan2 (iadd .i64 t1 1) c2 v41 (List.set (List.set out1 1 (iadd .i64 (gd out1 1 0) (imul .i64 (gd c2.2.2.1 t1.toNat 0) (gd plan2 t1.toNat 0)))) 2 (iadd .i64 (gd (List.set out1 1 (iadd .i64 (gd out1 1 0) (imul .i64 (gd c2.2.2.1 t1.toNat 0) (gd plan2 t1.toNat 0)))) 2 0) (imul .i64 (gd c2.2.2.2 t1.toNat 0) (gd stocks1 t1.toNat 0)))) stocks1
def Q60_K2 (N : Nat) (v42 : List Int) (out2 : List Int) : Option Y7 :=
  some (out2, ())
def Q60_B1 (N : Nat) (kx : (List Int) → Int → Y2 → (List Int) → (List Int) → (List Int) → Option Y7) (plan1 : List Int) (t : Int) (c1 : (List Int) × (List Int) × (List Int) × (List Int)) (v4 : List Int) (out : List Int) (stocks : List Int) : Option Y7 :=
  bif ilt t (len plan1) then
    chk (inB t plan1.length) <|
    bif ilt 0 (gd plan1 t.toNat 0) then
      chk (inB 0 3) <|
      chk (inB t c1.2.1.length) <|
      chk (inB 0 3) <|
      Q60_K1 N kx plan1 t c1 v4 (List.set out 0 (iadd .i64 (gd out 0 0) (gd c1.2.1 t.toNat 0))) stocks
    else
      Q60_K1 N kx plan1 t c1 v4 out stocks
  else
    Q60_K2 N v4 out
def Q60_L1 (N fu_ : Nat) (plan1 : List Int) (t : Int) (c1 : (List Int) × (List Int) × (List Int) × (List Int)) (v4 : List Int) (out : List Int) (stocks : List Int) : Option Y7 :=
  iterK fu_ (fun kx (v_ : Y22 × (Y2 × (List Int) × (List Int) × (List Int) × Unit)) => Q60_B1 N (fun plan1 t c1 v4 out stocks => kx ((plan1, t, ()), (c1, v4, out, stocks, ()))) v_.1.1 v_.1.2.1 v_.2.1 v_.2.2.1 v_.2.2.2.1 v_.2.2.2.2.1) ((plan1, t, ()), (c1, v4, out, stocks, ()))
theorem Q60_L1_run (N : Nat) (plan1 : Nat → (List Int)) (t : Nat → Int) (c1 : Nat → Y2) (v4 : Nat → (List Int)) (out : Nat → (List Int)) (stocks : Nat → (List Int)) (n_ : Nat) {res_ : Option Y7} (hstep_ : ∀ j_, j_ < n_ → ∀ kx_, Q60_B1 N kx_ (plan1 j_) (t j_) (c1 j_) (v4 j_) (out j_) (stocks j_) = kx_ (plan1 (j_ + 1)) (t (j_ + 1)) (c1 (j_ + 1)) (v4 (j_ + 1)) (out (j_ + 1)) (stocks (j_ + 1))) (hend_ : ∀ kx_, Q60_B1 N kx_ (plan1 n_) (t n_) (c1 n_) (v4 n_) (out n_) (stocks n_) = res_) (fu_ : Nat) (hm_ : n_ < fu_) : Q60_L1 N fu_ (plan1 0) (t 0) (c1 0) (v4 0) (out 0) (stocks 0) = res_ := by
  exact loop_run (L := fun fu_ (x_ : (List Int) × Int × Y2 × (List Int) × (List Int) × (List Int)) => Q60_L1 N fu_ x_.1 x_.2.1 x_.2.2.1 x_.2.2.2.1 x_.2.2.2.2.1 x_.2.2.2.2.2) (B := fun kx_ x_ => Q60_B1 N (fun plan1 t c1 v4 out stocks => kx_ (plan1, t, c1, v4, out, stocks)) x_.1 x_.2.1 x_.2.2.1 x_.2.2.2.1 x_.2.2.2.2.1 x_.2.2.2.2.2) (fun _ _ => rfl) (fun j_ => (plan1 j_, t j_, c1 j_, v4 j_, out j_, stocks j_)) n_ (fun j_ hi_ kx_ => hstep_ j_ hi_ _) (fun kx_ => hend_ _) fu_ hm_
def Q60 (N : Nat) (c : (List Int) × (List Int) × (List Int) × (List Int)) (plan : List Int) : Option Y7 :=
  (Q62 N c plan).bind fun r =>
  Q60_L1 N N plan 0 c (List.replicate 3 0) (List.replicate 3 0) r.1
def Q56 (N : Nat) (c : (List Int) × (List Int) × (List Int) × (List Int)) (plan : List Int) : Option Y6 :=
  (Q60 N c plan).bind fun r =>
  chk (inB 0 3) <|
  chk (inB 1 3) <|
  chk (inB 2 3) <|
  some (iadd .i64 (iadd .i64 (gd r.1 0 0) (gd r.1 1 0)) (gd r.1 2 0), ())
def Q53_K1 (N : Nat) : Option Y4 :=
  some (false, ())
def Q53_B1 (N : Nat) (kx : (List Int) → (List Int) → Int → Option Y4) (a1 : List Int) (b1 : List Int) (i : Int) : Option Y4 :=
  bif ilt i (len a1) then
    chk (inB i a1.length) <|
    chk (inB i b1.length) <|
    bif ine (gd a1 i.toNat 0) (gd b1 i.toNat 0) then
      chk (inB i a1.length) <|
      chk (inB i b1.length) <|
      some (ilt (gd a1 i.toNat 0) (gd b1 i.toNat 0), ())
    else
      kx a1 b1 (iadd .i64 i 1)
  else
    Q53_K1 N
def Q53_L1 (N fu_ : Nat) (a1 : List Int) (b1 : List Int) (i : Int) : Option Y4 :=
  iterK fu_ (fun kx (v_ : Y15 × (Unit)) => Q53_B1 N (fun a1 b1 i => kx ((a1, b1, i, ()), ())) v_.1.1 v_.1.2.1 v_.1.2.2.1) ((a1, b1, i, ()), ())
theorem Q53_L1_run (N : Nat) (a1 : Nat → (List Int)) (b1 : Nat → (List Int)) (i : Nat → Int) (n_ : Nat) {res_ : Option Y4} (hstep_ : ∀ j_, j_ < n_ → ∀ kx_, Q53_B1 N kx_ (a1 j_) (b1 j_) (i j_) = kx_ (a1 (j_ + 1)) (b1 (j_ + 1)) (i (j_ + 1))) (hend_ : ∀ kx_, Q53_B1 N kx_ (a1 n_) (b1 n_) (i n_) = res_) (fu_ : Nat) (hm_ : n_ < fu_) : Q53_L1 N fu_ (a1 0) (b1 0) (i 0) = res_ := by
  exact loop_run (L := fun fu_ (x_ : (List Int) × (List Int) × Int) => Q53_L1 N fu_ x_.1 x_.2.1 x_.2.2) (B := fun kx_ x_ => Q53_B1 N (fun a1 b1 i => kx_ (a1, b1, i)) x_.1 x_.2.1 x_.2.2) (fun _ _ => rfl) (fun j_ => (a1 j_, b1 j_, i j_)) n_ (fun j_ hi_ kx_ => hstep_ j_ hi_ _) (fun kx_ => hend_ _) fu_ hm_
def Q53 (N : Nat) (a : List Int) (b : List Int) : Option Y4 :=
  bif ine (len a) (len b) then
    some (ilt (len a) (len b), ())
  else
    Q53_L1 N N a b 0
def Q54_K1 (N : Nat) (best1 : List Int) : Option Y7 :=
  some (best1, ())
def Q54_B1 (N : Nat) (kx : Int → Int → Y2 → (List Int) → Option Y7) (least : Int) (code : Int) (c1 : (List Int) × (List Int) × (List Int) × (List Int)) (best : List Int) : Option Y7 :=
  chk (ile 0 (len c1.1)) <|
  bif ilt code (ishl .i64 1 (len c1.1)) then
    (Q55 N (len c1.1) code).bind fun r =>
    (Q57 N c1 r.1).bind fun r1 =>
    bif !r1.1 then
      kx least (iadd .i64 code 1) c1 best
    else
      (Q58 N c1 r.1).bind fun r2 =>
      (Q56 N c1 r2.1).bind fun r3 =>
      bif ilt least 0 then
        kx r3.1 (iadd .i64 code 1) c1 r.1
      else
        bif ilt r3.1 least then
          kx r3.1 (iadd .i64 code 1) c1 r.1
        else
          bif ieq r3.1 least then
            (Q53 N r.1 best).bind fun r4 =>
            bif r4.1 then
              kx r3.1 (iadd .i64 code 1) c1 r.1
            else
              kx least (iadd .i64 code 1) c1 best
          else
            kx least (iadd .i64 code 1) c1 best
  else
    Q54_K1 N best
def Q54_L1 (N fu_ : Nat) (least : Int) (code : Int) (c1 : (List Int) × (List Int) × (List Int) × (List Int)) (best : List Int) : Option Y7 :=
  iterK fu_ (fun kx (v_ : (Int × Int × Unit) × (Y2 × (List Int) × Unit)) => Q54_B1 N (fun least code c1 best => kx ((least, code, ()), (c1, best, ()))) v_.1.1 v_.1.2.1 v_.2.1 v_.2.2.1) ((least, code, ()), (c1, best, ()))
theorem Q54_L1_run (N : Nat) (least : Nat → Int) (code : Nat → Int) (c1 : Nat → Y2) (best : Nat → (List Int)) (n_ : Nat) {res_ : Option Y7} (hstep_ : ∀ j_, j_ < n_ → ∀ kx_, Q54_B1 N kx_ (least j_) (code j_) (c1 j_) (best j_) = kx_ (least (j_ + 1)) (code (j_ + 1)) (c1 (j_ + 1)) (best (j_ + 1))) (hend_ : ∀ kx_, Q54_B1 N kx_ (least n_) (code n_) (c1 n_) (best n_) = res_) (fu_ : Nat) (hm_ : n_ < fu_) : Q54_L1 N fu_ (least 0) (code 0) (c1 0) (best 0) = res_ := by
  exact loop_run (L := fun fu_ (x_ : Int × Int × Y2 × (List Int)) => Q54_L1 N fu_ x_.1 x_.2.1 x_.2.2.1 x_.2.2.2) (B := fun kx_ x_ => Q54_B1 N (fun least code c1 best => kx_ (least, code, c1, best)) x_.1 x_.2.1 x_.2.2.1 x_.2.2.2) (fun _ _ => rfl) (fun j_ => (least j_, code j_, c1 j_, best j_)) n_ (fun j_ hi_ kx_ => hstep_ j_ hi_ _) (fun kx_ => hend_ _) fu_ hm_
def Q54 (N : Nat) (c : (List Int) × (List Int) × (List Int) × (List Int)) : Option Y7 :=
  Q54_L1 N N (-1) 0 c []
def Q46_K1 (N : Nat) (out1 : List (List Int)) : Option Y3 :=
  some ((out1, true), ())
def Q46_B1 (N : Nat) (kx : (List Int) → Int → Y0 → Y1 → Option Y3) (need : List Int) (s : Int) (c1 : (List Int) × (List Int) × (List Int)) (out : List (List Int)) : Option Y3 :=
  bif ile 0 s then
    chk (inB s c1.2.1.length) <|
    chk (inB s c1.2.2.length) <|
    (Q65 N need (gd c1.2.1 s.toNat 0) (gd c1.2.2 s.toNat 0)).bind fun r1 =>
    (Q59 N r1.1).bind fun r2 =>
    bif !r2.1 then
      some (([], false), ())
    else
      (Q54 N r1.1).bind fun r3 =>
      (Q58 N r1.1 r3.1).bind fun r4 =>
      chk (fitB (1 + out.length) 24) <|
      kx r4.1 (isub .i64 s 1) c1 ([r4.1] ++ out)
  else
    Q46_K1 N out
def Q46_L1 (N fu_ : Nat) (need : List Int) (s : Int) (c1 : (List Int) × (List Int) × (List Int)) (out : List (List Int)) : Option Y3 :=
  iterK fu_ (fun kx (v_ : Y22 × Y18) => Q46_B1 N (fun need s c1 out => kx ((need, s, ()), (c1, out, ()))) v_.1.1 v_.1.2.1 v_.2.1 v_.2.2.1) ((need, s, ()), (c1, out, ()))
theorem Q46_L1_run (N : Nat) (need : Nat → (List Int)) (s : Nat → Int) (c1 : Nat → Y0) (out : Nat → Y1) (n_ : Nat) {res_ : Option Y3} (hstep_ : ∀ j_, j_ < n_ → ∀ kx_, Q46_B1 N kx_ (need j_) (s j_) (c1 j_) (out j_) = kx_ (need (j_ + 1)) (s (j_ + 1)) (c1 (j_ + 1)) (out (j_ + 1))) (hend_ : ∀ kx_, Q46_B1 N kx_ (need n_) (s n_) (c1 n_) (out n_) = res_) (fu_ : Nat) (hm_ : n_ < fu_) : Q46_L1 N fu_ (need 0) (s 0) (c1 0) (out 0) = res_ := by
  exact loop_run (L := fun fu_ (x_ : (List Int) × Int × Y0 × Y1) => Q46_L1 N fu_ x_.1 x_.2.1 x_.2.2.1 x_.2.2.2) (B := fun kx_ x_ => Q46_B1 N (fun need s c1 out => kx_ (need, s, c1, out)) x_.1 x_.2.1 x_.2.2.1 x_.2.2.2) (fun _ _ => rfl) (fun j_ => (need j_, s j_, c1 j_, out j_)) n_ (fun j_ hi_ kx_ => hstep_ j_ hi_ _) (fun kx_ => hend_ _) fu_ hm_
def Q46 (N : Nat) (c : (List Int) × (List Int) × (List Int)) : Option Y3 :=
  (Q69 N c).bind fun r =>
  bif !r.1 then
    some (([], false), ())
  else
    Q46_L1 N N c.1 (isub .i64 (len c.2.1) 1) c []
def Q27_K1 (N : Nat) : Option Y4 :=
  some (true, ())
def Q27_B1 (N : Nat) (kx : (List Int) → (List Int) → Int → Option Y4) (a1 : List Int) (b1 : List Int) (i : Int) : Option Y4 :=
  bif ilt i (len a1) then
    chk (inB i a1.length) <|
    chk (inB i b1.length) <|
    bif ine (gd a1 i.toNat 0) (gd b1 i.toNat 0) then
      some (false, ())
    else
      kx a1 b1 (iadd .i64 i 1)
  else
    Q27_K1 N
def Q27_L1 (N fu_ : Nat) (a1 : List Int) (b1 : List Int) (i : Int) : Option Y4 :=
  iterK fu_ (fun kx (v_ : Y15 × (Unit)) => Q27_B1 N (fun a1 b1 i => kx ((a1, b1, i, ()), ())) v_.1.1 v_.1.2.1 v_.1.2.2.1) ((a1, b1, i, ()), ())
theorem Q27_L1_run (N : Nat) (a1 : Nat → (List Int)) (b1 : Nat → (List Int)) (i : Nat → Int) (n_ : Nat) {res_ : Option Y4} (hstep_ : ∀ j_, j_ < n_ → ∀ kx_, Q27_B1 N kx_ (a1 j_) (b1 j_) (i j_) = kx_ (a1 (j_ + 1)) (b1 (j_ + 1)) (i (j_ + 1))) (hend_ : ∀ kx_, Q27_B1 N kx_ (a1 n_) (b1 n_) (i n_) = res_) (fu_ : Nat) (hm_ : n_ < fu_) : Q27_L1 N fu_ (a1 0) (b1 0) (i 0) = res_ := by
  exact loop_run (L := fun fu_ (x_ : (List Int) × (List Int) × Int) => Q27_L1 N fu_ x_.1 x_.2.1 x_.2.2) (B := fun kx_ x_ => Q27_B1 N (fun a1 b1 i => kx_ (a1, b1, i)) x_.1 x_.2.1 x_.2.2) (fun _ _ => rfl) (fun j_ => (a1 j_, b1 j_, i j_)) n_ (fun j_ hi_ kx_ => hstep_ j_ hi_ _) (fun kx_ => hend_ _) fu_ hm_
def Q27 (N : Nat) (a : List Int) (b : List Int) : Option Y4 :=
  bif ine (len a) (len b) then
    some (false, ())
  else
    Q27_L1 N N a b 0
def Q29_K1 (N : Nat) : Option Y4 :=
  some (true, ())
def Q29_B1 (N : Nat) (kx : Y1 → Y1 → Int → Option Y4) (a1 : List (List Int)) (b1 : List (List Int)) (i : Int) : Option Y4 :=
  bif ilt i (len a1) then
    chk (inB i a1.length) <|
    chk (inB i b1.length) <|
    (Q27 N (gd a1 i.toNat []) (gd b1 i.toNat [])).bind fun r =>
    bif !r.1 then
      some (false, ())
    else
      kx a1 b1 (iadd .i64 i 1)
  else
    Q29_K1 N
def Q29_L1 (N fu_ : Nat) (a1 : List (List Int)) (b1 : List (List Int)) (i : Int) : Option Y4 :=
  iterK fu_ (fun kx (v_ : (Y1 × Y1 × Int × Unit) × (Unit)) => Q29_B1 N (fun a1 b1 i => kx ((a1, b1, i, ()), ())) v_.1.1 v_.1.2.1 v_.1.2.2.1) ((a1, b1, i, ()), ())
theorem Q29_L1_run (N : Nat) (a1 : Nat → Y1) (b1 : Nat → Y1) (i : Nat → Int) (n_ : Nat) {res_ : Option Y4} (hstep_ : ∀ j_, j_ < n_ → ∀ kx_, Q29_B1 N kx_ (a1 j_) (b1 j_) (i j_) = kx_ (a1 (j_ + 1)) (b1 (j_ + 1)) (i (j_ + 1))) (hend_ : ∀ kx_, Q29_B1 N kx_ (a1 n_) (b1 n_) (i n_) = res_) (fu_ : Nat) (hm_ : n_ < fu_) : Q29_L1 N fu_ (a1 0) (b1 0) (i 0) = res_ := by
  exact loop_run (L := fun fu_ (x_ : Y1 × Y1 × Int) => Q29_L1 N fu_ x_.1 x_.2.1 x_.2.2) (B := fun kx_ x_ => Q29_B1 N (fun a1 b1 i => kx_ (a1, b1, i)) x_.1 x_.2.1 x_.2.2) (fun _ _ => rfl) (fun j_ => (a1 j_, b1 j_, i j_)) n_ (fun j_ hi_ kx_ => hstep_ j_ hi_ _) (fun kx_ => hend_ _) fu_ hm_
def Q29 (N : Nat) (a : List (List Int)) (b : List (List Int)) : Option Y4 :=
  bif ine (len a) (len b) then
    some (false, ())
  else
    Q29_L1 N N a b 0
def Q28 (N : Nat) (a : List (List Int)) (b : List (List Int)) : Option Y4 :=
  (Q29 N a b).bind fun r =>
  some (r.1, ())
def Q23 (N : Nat) (c : (List Int) × (List Int) × (List Int)) (plan : List (List Int)) : Option Y3 :=
  (Q16 N c).bind fun r =>
  bif !r.1 then
    some (([], false), ())
  else
    (Q15 N c plan).bind fun r1 =>
    some ((r1.1.1, r1.1.2), ())
def Q10 (N : Nat) (c : (List Int) × (List Int) × (List Int)) (plan : List (List Int)) : Option ((Int × Bool) × Unit) :=
  (Q23 N c plan).bind fun r =>
  bif !r.1.2 then
    some ((0, false), ())
  else
    (Q13 N c plan).bind fun r1 =>
    some ((r1.1, true), ())
def Q17_K1 (N : Nat) (kx : Y1 → Int → Option Y11) (plan3 : List (List Int)) (stage2 : Int) : Option Y11 :=
  kx plan3 (iadd .i64 stage2 1)
def Q17_B1 (N : Nat) (kx : Y1 → Int → Option Y11) (kx1 : Y1 → Int → (List Int) → Int → Int → Option Y11) (plan2 : List (List Int)) (stage1 : Int) (v29 : List Int) (v30 : Int) (v31 : Int) : Option Y11 :=
  bif ilt v31 v30 then
    chk (inB v31 v29.length) <|
    bif ilt 0 (gd v29 v31.toNat 0) then
      chk (inB stage1 plan2.length) <|
      chk (inB v31 (gd plan2 stage1.toNat []).length) <|
      bif ieq (gd (gd plan2 stage1.toNat []) v31.toNat 0) 0 then
        some ((false, true), ())
      else
        kx1 plan2 stage1 v29 v30 (iadd .i64 v31 1)
    else
      kx1 plan2 stage1 v29 v30 (iadd .i64 v31 1)
  else
    Q17_K1 N kx plan2 stage1
def Q17_L1 (N fu_ : Nat) (kx : Y1 → Int → Option Y11) (plan2 : List (List Int)) (stage1 : Int) (v29 : List Int) (v30 : Int) (v31 : Int) : Option Y11 :=
  iterK fu_ (fun kx1 (v_ : (Y1 × Int × (List Int) × Int × Int × Unit) × (Unit)) => Q17_B1 N kx (fun plan2 stage1 v29 v30 v31 => kx1 ((plan2, stage1, v29, v30, v31, ()), ())) v_.1.1 v_.1.2.1 v_.1.2.2.1 v_.1.2.2.2.1 v_.1.2.2.2.2.1) ((plan2, stage1, v29, v30, v31, ()), ())
theorem Q17_L1_run (N : Nat) (kx : Y1 → Int → Option Y11) (plan2 : Nat → Y1) (stage1 : Nat → Int) (v29 : Nat → (List Int)) (v30 : Nat → Int) (v31 : Nat → Int) (n_ : Nat) {res_ : Option Y11} (hstep_ : ∀ j_, j_ < n_ → ∀ kx_, Q17_B1 N kx kx_ (plan2 j_) (stage1 j_) (v29 j_) (v30 j_) (v31 j_) = kx_ (plan2 (j_ + 1)) (stage1 (j_ + 1)) (v29 (j_ + 1)) (v30 (j_ + 1)) (v31 (j_ + 1))) (hend_ : ∀ kx_, Q17_B1 N kx kx_ (plan2 n_) (stage1 n_) (v29 n_) (v30 n_) (v31 n_) = res_) (fu_ : Nat) (hm_ : n_ < fu_) : Q17_L1 N fu_ kx (plan2 0) (stage1 0) (v29 0) (v30 0) (v31 0) = res_ := by
  exact loop_run (L := fun fu_ (x_ : Y1 × Int × (List Int) × Int × Int) => Q17_L1 N fu_ kx x_.1 x_.2.1 x_.2.2.1 x_.2.2.2.1 x_.2.2.2.2) (B := fun kx_ x_ => Q17_B1 N kx (fun plan2 stage1 v29 v30 v31 => kx_ (plan2, stage1, v29, v30, v31)) x_.1 x_.2.1 x_.2.2.1 x_.2.2.2.1 x_.2.2.2.2) (fun _ _ => rfl) (fun j_ => (plan2 j_, stage1 j_, v29 j_, v30 j_, v31 j_)) n_ (fun j_ hi_ kx_ => hstep_ j_ hi_ _) (fun kx_ => hend_ _) fu_ hm_
def Q17_K2 (N : Nat) : Option Y11 :=
  some ((true, true), ())
def Q17_B2 (N : Nat) (kx : Y1 → Int → Option Y11) (plan1 : List (List Int)) (stage : Int) : Option Y11 :=
  bif ilt stage (len plan1) then
    chk (inB (isub .i64 stage 1) plan1.length) <|
    Q17_L1 N N kx plan1 stage (gd plan1 (isub .i64 stage 1).toNat []) (len (gd plan1 (isub .i64 stage 1).toNat [])) 0
  else
    Q17_K2 N
def Q17_L2 (N fu_ : Nat) (plan1 : List (List Int)) (stage : Int) : Option Y11 :=
  iterK fu_ (fun kx (v_ : (Y1 × Int × Unit) × (Unit)) => Q17_B2 N (fun plan1 stage => kx ((plan1, stage, ()), ())) v_.1.1 v_.1.2.1) ((plan1, stage, ()), ())
theorem Q17_L2_run (N : Nat) (plan1 : Nat → Y1) (stage : Nat → Int) (n_ : Nat) {res_ : Option Y11} (hstep_ : ∀ j_, j_ < n_ → ∀ kx_, Q17_B2 N kx_ (plan1 j_) (stage j_) = kx_ (plan1 (j_ + 1)) (stage (j_ + 1))) (hend_ : ∀ kx_, Q17_B2 N kx_ (plan1 n_) (stage n_) = res_) (fu_ : Nat) (hm_ : n_ < fu_) : Q17_L2 N fu_ (plan1 0) (stage 0) = res_ := by
  exact loop_run (L := fun fu_ (x_ : Y1 × Int) => Q17_L2 N fu_ x_.1 x_.2) (B := fun kx_ x_ => Q17_B2 N (fun plan1 stage => kx_ (plan1, stage)) x_.1 x_.2) (fun _ _ => rfl) (fun j_ => (plan1 j_, stage j_)) n_ (fun j_ hi_ kx_ => hstep_ j_ hi_ _) (fun kx_ => hend_ _) fu_ hm_
def Q17 (N : Nat) (c : (List Int) × (List Int) × (List Int)) (plan : List (List Int)) : Option Y11 :=
  (Q23 N c plan).bind fun r =>
  bif !r.1.2 then
    some ((false, false), ())
  else
    Q17_L2 N N plan 1
def laws_FnNested_K1 (N : Nat) (best1 : List (List Int)) (fine1 : Bool) (least1 : Int) (there1 : Bool) (c1 : (List Int) × (List Int) × (List Int)) : Option Y4 :=
  bif !fine1 then
    some (!there1, ())
  else
    (Q18 N c1 best1).bind fun r15 =>
    (Q10 N c1 r15.1.1).bind fun r16 =>
    (Q17 N c1 r15.1.1).bind fun r17 =>
    bif r15.1.2 then
      bif r17.1.1 then
        some (ieq r16.1.1 least1, ())
      else
        some (false, ())
    else
      some (false, ())
def laws_FnNested_K2 (N : Nat) (best : List (List Int)) (fine : Bool) (least : Int) (there : Bool) (stage : List (List Int)) (one : Bool) (c : (List Int) × (List Int) × (List Int)) : Option Y4 :=
  bif one then
    (Q10 N c stage).bind fun r14 =>
    bif !r14.1.2 then
      some (false, ())
    else
      bif ilt r14.1.1 least then
        some (false, ())
      else
        laws_FnNested_K1 N best fine least there c
  else
    laws_FnNested_K1 N best fine least there c
def laws_FnNested (N : Nat) (code : List Int) : Option Y4 :=
  (Q26 N code).bind fun r =>
  bif r.1 then
    some (true, ())
  else
    (Q44 N code).bind fun r1 =>
    (Q18 N r1.1.1 r1.1.2).bind fun r2 =>
    (Q45 N r1.1.1 r1.1.2).bind fun r3 =>
    (Q4 N r1.1.1).bind fun r4 =>
    (Q43 N r1.1.1).bind fun r5 =>
    (Q3 N r1.1.1).bind fun r6 =>
    (Q42 N r1.1.1).bind fun r7 =>
    (Q19 N r1.1.1).bind fun r8 =>
    (Q46 N r1.1.1).bind fun r9 =>
    bif !(Go.Rx.beq r2.1.2 r3.1.2) then
      some (false, ())
    else
      (Q28 N r2.1.1 r3.1.1).bind fun r10 =>
      bif !r10.1 then
        some (false, ())
      else
        bif !(Go.Rx.beq r4.1.2 r5.1.2) then
          some (false, ())
        else
          (Q28 N r4.1.1 r5.1.1).bind fun r11 =>
          bif !r11.1 then
            some (false, ())
          else
            bif ine r6.1.1 r7.1.1 then
              some (false, ())
            else
              bif !(Go.Rx.beq r6.1.2 r7.1.2) then
                some (false, ())
              else
                bif !(Go.Rx.beq r8.1.2 r9.1.2) then
                  some (false, ())
                else
                  (Q28 N r8.1.1 r9.1.1).bind fun r12 =>
                  bif !r12.1 then
                    some (false, ())
                  else
                    bif r2.1.2 then
                      (Q10 N r1.1.1 r2.1.1).bind fun r13 =>
                      bif !r13.1.2 then
                        some (false, ())
                      else
                        bif ilt r13.1.1 r6.1.1 then
                          some (false, ())
                        else
                          laws_FnNested_K2 N r4.1.1 r4.1.2 r6.1.1 r6.1.2 r8.1.1 r8.1.2 r1.1.1
                    else
                      laws_FnNested_K2 N r4.1.1 r4.1.2 r6.1.1 r6.1.2 r8.1.1 r8.1.2 r1.1.1
end Px
end Go.Rx
