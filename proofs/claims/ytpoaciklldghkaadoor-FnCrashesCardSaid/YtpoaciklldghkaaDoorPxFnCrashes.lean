/- This text defines the plain functions that the Go functions behind FnCrashes compute; no condition. -/
import Derived.Test.YtpoaciklldghkaaDoorRxd
set_option linter.unusedVariables false
set_option linter.unusedSimpArgs false
namespace Go.Rx
namespace Px
def spec_l1Split_K1 (N : Nat) (s2 : ByteArray) (fromx1 : Int) (out1 : List ByteArray) : Option ((List ByteArray) × Unit) :=
  chk (cutB fromx1 (slen s2) s2.size) <|
  chk (fitB (out1.length + 1) 16) <|
  some (out1 ++ [scut s2 fromx1 (slen s2)], ())
def spec_l1Split_B1 (N : Nat) (kx : ByteArray → Int → Int → Int → (List ByteArray) → Option ((List ByteArray) × Unit)) (s1 : ByteArray) (b1 : Int) (fromx : Int) (i : Int) (out : List ByteArray) : Option ((List ByteArray) × Unit) :=
  bif ilt i (slen s1) then
    chk (inB i s1.size) <|
    bif ieq (sbyte s1 i) b1 then
      chk (cutB fromx i s1.size) <|
      chk (fitB (out.length + 1) 16) <|
      kx s1 b1 (iadd .i64 i 1) (iadd .i64 i 1) (out ++ [scut s1 fromx i])
    else
      kx s1 b1 fromx (iadd .i64 i 1) out
  else
    spec_l1Split_K1 N s1 fromx out
def spec_l1Split_L1 (N fu_ : Nat) (s1 : ByteArray) (b1 : Int) (fromx : Int) (i : Int) (out : List ByteArray) : Option ((List ByteArray) × Unit) :=
  iterK fu_ (fun kx (v_ : (ByteArray × Int × Int × Int × Unit) × ((List ByteArray) × Unit)) => spec_l1Split_B1 N (fun s1 b1 fromx i out => kx ((s1, b1, fromx, i, ()), (out, ()))) v_.1.1 v_.1.2.1 v_.1.2.2.1 v_.1.2.2.2.1 v_.2.1) ((s1, b1, fromx, i, ()), (out, ()))
theorem spec_l1Split_L1_succ (N fu_ : Nat) (s1 : ByteArray) (b1 : Int) (fromx : Int) (i : Int) (out : List ByteArray) : spec_l1Split_L1 N (fu_ + 1) s1 b1 fromx i out = spec_l1Split_B1 N (fun s1 b1 fromx i out => spec_l1Split_L1 N fu_ s1 b1 fromx i out) s1 b1 fromx i out := rfl
theorem spec_l1Split_L1_run (N : Nat) (s1 : Nat → ByteArray) (b1 : Nat → Int) (fromx : Nat → Int) (i : Nat → Int) (out : Nat → (List ByteArray)) (n_ : Nat) {res_ : Option ((List ByteArray) × Unit)} (hstep_ : ∀ j_, j_ < n_ → ∀ kx_, spec_l1Split_B1 N kx_ (s1 j_) (b1 j_) (fromx j_) (i j_) (out j_) = kx_ (s1 (j_ + 1)) (b1 (j_ + 1)) (fromx (j_ + 1)) (i (j_ + 1)) (out (j_ + 1))) (hend_ : ∀ kx_, spec_l1Split_B1 N kx_ (s1 n_) (b1 n_) (fromx n_) (i n_) (out n_) = res_) (fu_ : Nat) (hm_ : n_ < fu_) : spec_l1Split_L1 N fu_ (s1 0) (b1 0) (fromx 0) (i 0) (out 0) = res_ := by
  exact loop_run (L := fun fu_ (x_ : ByteArray × Int × Int × Int × (List ByteArray)) => spec_l1Split_L1 N fu_ x_.1 x_.2.1 x_.2.2.1 x_.2.2.2.1 x_.2.2.2.2) (B := fun kx_ x_ => spec_l1Split_B1 N (fun s1 b1 fromx i out => kx_ (s1, b1, fromx, i, out)) x_.1 x_.2.1 x_.2.2.1 x_.2.2.2.1 x_.2.2.2.2) (fun _ _ => rfl) (fun j_ => (s1 j_, b1 j_, fromx j_, i j_, out j_)) n_ (fun j_ hi_ kx_ => hstep_ j_ hi_ _) (fun kx_ => hend_ _) fu_ hm_
def spec_l1Split (N : Nat) (s : ByteArray) (b : Int) : Option ((List ByteArray) × Unit) :=
  spec_l1Split_L1 N N s b 0 0 []
def spec_l1In (N : Nat) (x : Int) (a : Int) (b : Int) : Option (Bool × Unit) :=
  bif ile a x then
    some (ile x b, ())
  else
    some (false, ())
def spec_l12Bytes_K1 (N : Nat) (s2 : ByteArray) (most2 : Int) : Option (Bool × Unit) :=
  some (ile (slen s2) most2, ())
def spec_l12Bytes_B1 (N : Nat) (kx : ByteArray → Int → Int → Option (Bool × Unit)) (s1 : ByteArray) (most1 : Int) (i : Int) : Option (Bool × Unit) :=
  bif ilt i (slen s1) then
    chk (inB i s1.size) <|
    (spec_l1In N (icv .i64 (sbyte s1 i)) 32 126).bind fun r =>
    bif !r.1 then
      some (false, ())
    else
      chk (inB i s1.size) <|
      bif ieq (sbyte s1 i) 35 then
        some (false, ())
      else
        kx s1 most1 (iadd .i64 i 1)
  else
    spec_l12Bytes_K1 N s1 most1
def spec_l12Bytes_L1 (N fu_ : Nat) (s1 : ByteArray) (most1 : Int) (i : Int) : Option (Bool × Unit) :=
  iterK fu_ (fun kx (v_ : (ByteArray × Int × Int × Unit) × (Unit)) => spec_l12Bytes_B1 N (fun s1 most1 i => kx ((s1, most1, i, ()), ())) v_.1.1 v_.1.2.1 v_.1.2.2.1) ((s1, most1, i, ()), ())
theorem spec_l12Bytes_L1_succ (N fu_ : Nat) (s1 : ByteArray) (most1 : Int) (i : Int) : spec_l12Bytes_L1 N (fu_ + 1) s1 most1 i = spec_l12Bytes_B1 N (fun s1 most1 i => spec_l12Bytes_L1 N fu_ s1 most1 i) s1 most1 i := rfl
theorem spec_l12Bytes_L1_run (N : Nat) (s1 : Nat → ByteArray) (most1 : Nat → Int) (i : Nat → Int) (n_ : Nat) {res_ : Option (Bool × Unit)} (hstep_ : ∀ j_, j_ < n_ → ∀ kx_, spec_l12Bytes_B1 N kx_ (s1 j_) (most1 j_) (i j_) = kx_ (s1 (j_ + 1)) (most1 (j_ + 1)) (i (j_ + 1))) (hend_ : ∀ kx_, spec_l12Bytes_B1 N kx_ (s1 n_) (most1 n_) (i n_) = res_) (fu_ : Nat) (hm_ : n_ < fu_) : spec_l12Bytes_L1 N fu_ (s1 0) (most1 0) (i 0) = res_ := by
  exact loop_run (L := fun fu_ (x_ : ByteArray × Int × Int) => spec_l12Bytes_L1 N fu_ x_.1 x_.2.1 x_.2.2) (B := fun kx_ x_ => spec_l12Bytes_B1 N (fun s1 most1 i => kx_ (s1, most1, i)) x_.1 x_.2.1 x_.2.2) (fun _ _ => rfl) (fun j_ => (s1 j_, most1 j_, i j_)) n_ (fun j_ hi_ kx_ => hstep_ j_ hi_ _) (fun kx_ => hend_ _) fu_ hm_
def spec_l12Bytes (N : Nat) (s : ByteArray) (most : Int) : Option (Bool × Unit) :=
  spec_l12Bytes_L1 N N s most 0
def spec_l1Stands_K1 (N : Nat) : Option (Bool × Unit) :=
  some (false, ())
def spec_l1Stands_B1 (N : Nat) (kx : ByteArray → Int → Int → Option (Bool × Unit)) (s1 : ByteArray) (b1 : Int) (i : Int) : Option (Bool × Unit) :=
  bif ilt i (slen s1) then
    chk (inB i s1.size) <|
    bif ieq (sbyte s1 i) b1 then
      some (true, ())
    else
      kx s1 b1 (iadd .i64 i 1)
  else
    spec_l1Stands_K1 N
def spec_l1Stands_L1 (N fu_ : Nat) (s1 : ByteArray) (b1 : Int) (i : Int) : Option (Bool × Unit) :=
  iterK fu_ (fun kx (v_ : (ByteArray × Int × Int × Unit) × (Unit)) => spec_l1Stands_B1 N (fun s1 b1 i => kx ((s1, b1, i, ()), ())) v_.1.1 v_.1.2.1 v_.1.2.2.1) ((s1, b1, i, ()), ())
theorem spec_l1Stands_L1_succ (N fu_ : Nat) (s1 : ByteArray) (b1 : Int) (i : Int) : spec_l1Stands_L1 N (fu_ + 1) s1 b1 i = spec_l1Stands_B1 N (fun s1 b1 i => spec_l1Stands_L1 N fu_ s1 b1 i) s1 b1 i := rfl
theorem spec_l1Stands_L1_run (N : Nat) (s1 : Nat → ByteArray) (b1 : Nat → Int) (i : Nat → Int) (n_ : Nat) {res_ : Option (Bool × Unit)} (hstep_ : ∀ j_, j_ < n_ → ∀ kx_, spec_l1Stands_B1 N kx_ (s1 j_) (b1 j_) (i j_) = kx_ (s1 (j_ + 1)) (b1 (j_ + 1)) (i (j_ + 1))) (hend_ : ∀ kx_, spec_l1Stands_B1 N kx_ (s1 n_) (b1 n_) (i n_) = res_) (fu_ : Nat) (hm_ : n_ < fu_) : spec_l1Stands_L1 N fu_ (s1 0) (b1 0) (i 0) = res_ := by
  exact loop_run (L := fun fu_ (x_ : ByteArray × Int × Int) => spec_l1Stands_L1 N fu_ x_.1 x_.2.1 x_.2.2) (B := fun kx_ x_ => spec_l1Stands_B1 N (fun s1 b1 i => kx_ (s1, b1, i)) x_.1 x_.2.1 x_.2.2) (fun _ _ => rfl) (fun j_ => (s1 j_, b1 j_, i j_)) n_ (fun j_ hi_ kx_ => hstep_ j_ hi_ _) (fun kx_ => hend_ _) fu_ hm_
def spec_l1Stands (N : Nat) (s : ByteArray) (b : Int) : Option (Bool × Unit) :=
  spec_l1Stands_L1 N N s b 0
def spec_l12Record (N : Nat) (e : ByteArray × ByteArray) : Option (Bool × Unit) :=
  bif !(Go.Rx.seq e.1 (⟨#[]⟩ : ByteArray)) then
    (spec_l12Bytes N e.1 160).bind fun r =>
    bif r.1 then
      (spec_l1Stands N e.1 64).bind fun r1 =>
      bif !r1.1 then
        (spec_l12Bytes N e.2 200).bind fun r2 =>
        some (r2.1, ())
      else
        some (false, ())
    else
      some (false, ())
  else
    some (false, ())
def spec_l1Num_F (N : Nat) (kr_ : Int → Option (ByteArray × Unit)) (n : Int) : Option (ByteArray × Unit) :=
  bif ilt n 0 then
    (kr_ (isub .i64 0 n)).bind fun r =>
    chk (sfit (⟨#[45]⟩ : ByteArray) r.1) <|
    some (scat (⟨#[45]⟩ : ByteArray) r.1, ())
  else
    bif ilt n 10 then
      chk (cutB n (iadd .i64 n 1) (⟨#[48, 49, 50, 51, 52, 53, 54, 55, 56, 57]⟩ : ByteArray).size) <|
      some (scut (⟨#[48, 49, 50, 51, 52, 53, 54, 55, 56, 57]⟩ : ByteArray) n (iadd .i64 n 1), ())
    else
      chk (ine 10 0) <|
      (kr_ (iquo .i64 n 10)).bind fun r1 =>
      chk (ine 10 0) <|
      chk (ine 10 0) <|
      chk (cutB (irem n 10) (iadd .i64 (irem n 10) 1) (⟨#[48, 49, 50, 51, 52, 53, 54, 55, 56, 57]⟩ : ByteArray).size) <|
      chk (sfit r1.1 (scut (⟨#[48, 49, 50, 51, 52, 53, 54, 55, 56, 57]⟩ : ByteArray) (irem n 10) (iadd .i64 (irem n 10) 1))) <|
      some (scat r1.1 (scut (⟨#[48, 49, 50, 51, 52, 53, 54, 55, 56, 57]⟩ : ByteArray) (irem n 10) (iadd .i64 (irem n 10) 1)), ())
def spec_l1Num_R (N : Nat) : Nat → Int → Option (ByteArray × Unit)
  | 0 => fun _ => none
  | k_ + 1 => spec_l1Num_F N (spec_l1Num_R N k_)
theorem spec_l1Num_R_succ (N k_ : Nat) (n : Int) : spec_l1Num_R N (k_ + 1) n = spec_l1Num_F N (spec_l1Num_R N k_) n := rfl
def spec_l1Num (N : Nat) (n : Int) : Option (ByteArray × Unit) := spec_l1Num_R N N n
def spec_l1Sum_K1 (N : Nat) (n1 : Int) : Option (Int × Unit) :=
  some (n1, ())
def spec_l1Sum_B1 (N : Nat) (kx : ByteArray → Int → Int → Option (Int × Unit)) (s1 : ByteArray) (n : Int) (i : Int) : Option (Int × Unit) :=
  bif ilt i (slen s1) then
    chk (inB i s1.size) <|
    chk (ine 999979 0) <|
    kx s1 (irem (iadd .i64 (iadd .i64 (imul .i64 41 n) (icv .i64 (sbyte s1 i))) 1) 999979) (iadd .i64 i 1)
  else
    spec_l1Sum_K1 N n
def spec_l1Sum_L1 (N fu_ : Nat) (s1 : ByteArray) (n : Int) (i : Int) : Option (Int × Unit) :=
  iterK fu_ (fun kx (v_ : (ByteArray × Int × Int × Unit) × (Unit)) => spec_l1Sum_B1 N (fun s1 n i => kx ((s1, n, i, ()), ())) v_.1.1 v_.1.2.1 v_.1.2.2.1) ((s1, n, i, ()), ())
theorem spec_l1Sum_L1_succ (N fu_ : Nat) (s1 : ByteArray) (n : Int) (i : Int) : spec_l1Sum_L1 N (fu_ + 1) s1 n i = spec_l1Sum_B1 N (fun s1 n i => spec_l1Sum_L1 N fu_ s1 n i) s1 n i := rfl
theorem spec_l1Sum_L1_run (N : Nat) (s1 : Nat → ByteArray) (n : Nat → Int) (i : Nat → Int) (n_ : Nat) {res_ : Option (Int × Unit)} (hstep_ : ∀ j_, j_ < n_ → ∀ kx_, spec_l1Sum_B1 N kx_ (s1 j_) (n j_) (i j_) = kx_ (s1 (j_ + 1)) (n (j_ + 1)) (i (j_ + 1))) (hend_ : ∀ kx_, spec_l1Sum_B1 N kx_ (s1 n_) (n n_) (i n_) = res_) (fu_ : Nat) (hm_ : n_ < fu_) : spec_l1Sum_L1 N fu_ (s1 0) (n 0) (i 0) = res_ := by
  exact loop_run (L := fun fu_ (x_ : ByteArray × Int × Int) => spec_l1Sum_L1 N fu_ x_.1 x_.2.1 x_.2.2) (B := fun kx_ x_ => spec_l1Sum_B1 N (fun s1 n i => kx_ (s1, n, i)) x_.1 x_.2.1 x_.2.2) (fun _ _ => rfl) (fun j_ => (s1 j_, n j_, i j_)) n_ (fun j_ hi_ kx_ => hstep_ j_ hi_ _) (fun kx_ => hend_ _) fu_ hm_
def spec_l1Sum (N : Nat) (s : ByteArray) : Option (Int × Unit) :=
  spec_l1Sum_L1 N N s 7 0
def spec_l1Seal (N : Nat) (s : ByteArray) : Option (ByteArray × Unit) :=
  chk (sfit s (⟨#[35]⟩ : ByteArray)) <|
  (spec_l1Sum N s).bind fun r =>
  (spec_l1Num N r.1).bind fun r1 =>
  chk (sfit (scat s (⟨#[35]⟩ : ByteArray)) r1.1) <|
  some (scat (scat s (⟨#[35]⟩ : ByteArray)) r1.1, ())
def spec_l12Line (N : Nat) (kx : Int) (e : ByteArray × ByteArray) : Option (ByteArray × Unit) :=
  (spec_l1Num N kx).bind fun r =>
  chk (sfit r.1 (⟨#[32]⟩ : ByteArray)) <|
  chk (sfit (scat r.1 (⟨#[32]⟩ : ByteArray)) e.1) <|
  chk (sfit (scat (scat r.1 (⟨#[32]⟩ : ByteArray)) e.1) (⟨#[64]⟩ : ByteArray)) <|
  chk (sfit (scat (scat (scat r.1 (⟨#[32]⟩ : ByteArray)) e.1) (⟨#[64]⟩ : ByteArray)) e.2) <|
  (spec_l1Seal N (scat (scat (scat (scat r.1 (⟨#[32]⟩ : ByteArray)) e.1) (⟨#[64]⟩ : ByteArray)) e.2)).bind fun r1 =>
  chk (sfit r1.1 (⟨#[10]⟩ : ByteArray)) <|
  some (scat r1.1 (⟨#[10]⟩ : ByteArray), ())
def spec_l12Decode (N : Nat) (s : ByteArray) (kx : Int) : Option (((ByteArray × ByteArray) × Bool) × Unit) :=
  (spec_l1Num N kx).bind fun r =>
  chk (sfit r.1 (⟨#[32]⟩ : ByteArray)) <|
  (spec_l1Split N s 35).bind fun r1 =>
  chk (inB 0 r1.1.length) <|
  bif ilt (slen (gd r1.1 0 (⟨#[]⟩ : ByteArray))) (slen (scat r.1 (⟨#[32]⟩ : ByteArray))) then
    some ((((⟨#[]⟩ : ByteArray), (⟨#[]⟩ : ByteArray)), false), ())
  else
    chk (cutB 0 (slen (scat r.1 (⟨#[32]⟩ : ByteArray))) (gd r1.1 0 (⟨#[]⟩ : ByteArray)).size) <|
    bif !(Go.Rx.seq (scut (gd r1.1 0 (⟨#[]⟩ : ByteArray)) 0 (slen (scat r.1 (⟨#[32]⟩ : ByteArray)))) (scat r.1 (⟨#[32]⟩ : ByteArray))) then
      some ((((⟨#[]⟩ : ByteArray), (⟨#[]⟩ : ByteArray)), false), ())
    else
      chk (cutB (slen (scat r.1 (⟨#[32]⟩ : ByteArray))) (slen (gd r1.1 0 (⟨#[]⟩ : ByteArray))) (gd r1.1 0 (⟨#[]⟩ : ByteArray)).size) <|
      (spec_l1Split N (scut (gd r1.1 0 (⟨#[]⟩ : ByteArray)) (slen (scat r.1 (⟨#[32]⟩ : ByteArray))) (slen (gd r1.1 0 (⟨#[]⟩ : ByteArray)))) 64).bind fun r2 =>
      chk (inB 0 r2.1.length) <|
      bif ieq (slen (gd r2.1 0 (⟨#[]⟩ : ByteArray))) (slen (scut (gd r1.1 0 (⟨#[]⟩ : ByteArray)) (slen (scat r.1 (⟨#[32]⟩ : ByteArray))) (slen (gd r1.1 0 (⟨#[]⟩ : ByteArray))))) then
        some ((((⟨#[]⟩ : ByteArray), (⟨#[]⟩ : ByteArray)), false), ())
      else
        chk (cutB (iadd .i64 (slen (gd r2.1 0 (⟨#[]⟩ : ByteArray))) 1) (slen (scut (gd r1.1 0 (⟨#[]⟩ : ByteArray)) (slen (scat r.1 (⟨#[32]⟩ : ByteArray))) (slen (gd r1.1 0 (⟨#[]⟩ : ByteArray))))) (scut (gd r1.1 0 (⟨#[]⟩ : ByteArray)) (slen (scat r.1 (⟨#[32]⟩ : ByteArray))) (slen (gd r1.1 0 (⟨#[]⟩ : ByteArray)))).size) <|
        (spec_l12Record N (gd r2.1 0 (⟨#[]⟩ : ByteArray), scut (scut (gd r1.1 0 (⟨#[]⟩ : ByteArray)) (slen (scat r.1 (⟨#[32]⟩ : ByteArray))) (slen (gd r1.1 0 (⟨#[]⟩ : ByteArray)))) (iadd .i64 (slen (gd r2.1 0 (⟨#[]⟩ : ByteArray))) 1) (slen (scut (gd r1.1 0 (⟨#[]⟩ : ByteArray)) (slen (scat r.1 (⟨#[32]⟩ : ByteArray))) (slen (gd r1.1 0 (⟨#[]⟩ : ByteArray))))))).bind fun r3 =>
        bif r3.1 then
          (spec_l12Line N kx (gd r2.1 0 (⟨#[]⟩ : ByteArray), scut (scut (gd r1.1 0 (⟨#[]⟩ : ByteArray)) (slen (scat r.1 (⟨#[32]⟩ : ByteArray))) (slen (gd r1.1 0 (⟨#[]⟩ : ByteArray)))) (iadd .i64 (slen (gd r2.1 0 (⟨#[]⟩ : ByteArray))) 1) (slen (scut (gd r1.1 0 (⟨#[]⟩ : ByteArray)) (slen (scat r.1 (⟨#[32]⟩ : ByteArray))) (slen (gd r1.1 0 (⟨#[]⟩ : ByteArray))))))).bind fun r4 =>
          chk (sfit s (⟨#[10]⟩ : ByteArray)) <|
          some (((gd r2.1 0 (⟨#[]⟩ : ByteArray), scut (scut (gd r1.1 0 (⟨#[]⟩ : ByteArray)) (slen (scat r.1 (⟨#[32]⟩ : ByteArray))) (slen (gd r1.1 0 (⟨#[]⟩ : ByteArray)))) (iadd .i64 (slen (gd r2.1 0 (⟨#[]⟩ : ByteArray))) 1) (slen (scut (gd r1.1 0 (⟨#[]⟩ : ByteArray)) (slen (scat r.1 (⟨#[32]⟩ : ByteArray))) (slen (gd r1.1 0 (⟨#[]⟩ : ByteArray)))))), Go.Rx.seq r4.1 (scat s (⟨#[10]⟩ : ByteArray))), ())
        else
          some (((gd r2.1 0 (⟨#[]⟩ : ByteArray), scut (scut (gd r1.1 0 (⟨#[]⟩ : ByteArray)) (slen (scat r.1 (⟨#[32]⟩ : ByteArray))) (slen (gd r1.1 0 (⟨#[]⟩ : ByteArray)))) (iadd .i64 (slen (gd r2.1 0 (⟨#[]⟩ : ByteArray))) 1) (slen (scut (gd r1.1 0 (⟨#[]⟩ : ByteArray)) (slen (scat r.1 (⟨#[32]⟩ : ByteArray))) (slen (gd r1.1 0 (⟨#[]⟩ : ByteArray)))))), false), ())
def spec_l12Open_K1 (N : Nat) (atx1 : Int) (out1 : List (ByteArray × ByteArray)) : Option (((List (ByteArray × ByteArray)) × Int) × Unit) :=
  some ((out1, atx1), ())
def spec_l12Open_B1 (N : Nat) (kx : ByteArray → Int → (List (ByteArray × ByteArray)) → Option (((List (ByteArray × ByteArray)) × Int) × Unit)) (s1 : ByteArray) (atx : Int) (out : List (ByteArray × ByteArray)) : Option (((List (ByteArray × ByteArray)) × Int) × Unit) :=
  bif ilt atx (slen s1) then
    bif ilt (len out) 60 then
      chk (cutB atx (slen s1) s1.size) <|
      (spec_l1Split N (scut s1 atx (slen s1)) 10).bind fun r =>
      chk (inB 0 r.1.length) <|
      (spec_l12Decode N (gd r.1 0 (⟨#[]⟩ : ByteArray)) (len out)).bind fun r1 =>
      bif ilt (len r.1) 2 then
        spec_l12Open_K1 N atx out
      else
        bif !r1.1.2 then
          spec_l12Open_K1 N atx out
        else
          chk (fitB (out.length + 1) 32) <|
          chk (inB 0 r.1.length) <|
          kx s1 (iadd .i64 (iadd .i64 atx (slen (gd r.1 0 (⟨#[]⟩ : ByteArray)))) 1) (out ++ [r1.1.1])
    else
      spec_l12Open_K1 N atx out
  else
    spec_l12Open_K1 N atx out
def spec_l12Open_L1 (N fu_ : Nat) (s1 : ByteArray) (atx : Int) (out : List (ByteArray × ByteArray)) : Option (((List (ByteArray × ByteArray)) × Int) × Unit) :=
  iterK fu_ (fun kx (v_ : (ByteArray × Int × Unit) × ((List (ByteArray × ByteArray)) × Unit)) => spec_l12Open_B1 N (fun s1 atx out => kx ((s1, atx, ()), (out, ()))) v_.1.1 v_.1.2.1 v_.2.1) ((s1, atx, ()), (out, ()))
theorem spec_l12Open_L1_succ (N fu_ : Nat) (s1 : ByteArray) (atx : Int) (out : List (ByteArray × ByteArray)) : spec_l12Open_L1 N (fu_ + 1) s1 atx out = spec_l12Open_B1 N (fun s1 atx out => spec_l12Open_L1 N fu_ s1 atx out) s1 atx out := rfl
theorem spec_l12Open_L1_run (N : Nat) (s1 : Nat → ByteArray) (atx : Nat → Int) (out : Nat → (List (ByteArray × ByteArray))) (n_ : Nat) {res_ : Option (((List (ByteArray × ByteArray)) × Int) × Unit)} (hstep_ : ∀ j_, j_ < n_ → ∀ kx_, spec_l12Open_B1 N kx_ (s1 j_) (atx j_) (out j_) = kx_ (s1 (j_ + 1)) (atx (j_ + 1)) (out (j_ + 1))) (hend_ : ∀ kx_, spec_l12Open_B1 N kx_ (s1 n_) (atx n_) (out n_) = res_) (fu_ : Nat) (hm_ : n_ < fu_) : spec_l12Open_L1 N fu_ (s1 0) (atx 0) (out 0) = res_ := by
  exact loop_run (L := fun fu_ (x_ : ByteArray × Int × (List (ByteArray × ByteArray))) => spec_l12Open_L1 N fu_ x_.1 x_.2.1 x_.2.2) (B := fun kx_ x_ => spec_l12Open_B1 N (fun s1 atx out => kx_ (s1, atx, out)) x_.1 x_.2.1 x_.2.2) (fun _ _ => rfl) (fun j_ => (s1 j_, atx j_, out j_)) n_ (fun j_ hi_ kx_ => hstep_ j_ hi_ _) (fun kx_ => hend_ _) fu_ hm_
def spec_l12Open (N : Nat) (s : ByteArray) : Option (((List (ByteArray × ByteArray)) × Int) × Unit) :=
  spec_l12Open_L1 N N s 0 []
def spec_l12Valid (N : Nat) (l : ByteArray × ByteArray × Int) : Option (Bool × Unit) :=
  bif ilt 30000 (iadd .i64 (slen l.1) (slen l.2.1)) then
    some (false, ())
  else
    chk (sfit l.1 l.2.1) <|
    (spec_l12Open N (scat l.1 l.2.1)).bind fun r =>
    (spec_l12Open N l.1).bind fun r1 =>
    bif ieq r.1.2 (iadd .i64 (slen l.1) (slen l.2.1)) then
      bif ieq r1.1.2 (slen l.1) then
        some (ieq (len r.1.1) l.2.2, ())
      else
        some (false, ())
    else
      some (false, ())
def spec_CrashLog (N : Nat) (l : ByteArray × ByteArray × Int) (keep : Int) (torn : Bool) : Option ((ByteArray × Bool) × Unit) :=
  (spec_l12Valid N l).bind fun r =>
  bif !r.1 then
    some (((⟨#[]⟩ : ByteArray), false), ())
  else
    (spec_l1In N keep 0 (slen l.2.1)).bind fun r1 =>
    bif !r1.1 then
      some (((⟨#[]⟩ : ByteArray), false), ())
    else
      chk (cutB 0 keep l.2.1.size) <|
      chk (fitB (scut l.2.1 0 keep).size 1) <|
      bif torn then
        bif ilt 0 keep then
          chk (inB (isub .i64 keep 1) (sbytes (scut l.2.1 0 keep)).length) <|
          chk (inB (isub .i64 keep 1) (sbytes (scut l.2.1 0 keep)).length) <|
          chk (sfit l.1 (bstr (List.set (sbytes (scut l.2.1 0 keep)) (isub .i64 keep 1).toNat (isub .u8 255 (gd (sbytes (scut l.2.1 0 keep)) (isub .i64 keep 1).toNat 0))))) <|
          some ((scat l.1 (bstr (List.set (sbytes (scut l.2.1 0 keep)) (isub .i64 keep 1).toNat (isub .u8 255 (gd (sbytes (scut l.2.1 0 keep)) (isub .i64 keep 1).toNat 0)))), true), ())
        else
          chk (sfit l.1 (bstr (sbytes (scut l.2.1 0 keep)))) <|
          some ((scat l.1 (bstr (sbytes (scut l.2.1 0 keep))), true), ())
      else
        chk (sfit l.1 (bstr (sbytes (scut l.2.1 0 keep)))) <|
        some ((scat l.1 (bstr (sbytes (scut l.2.1 0 keep))), true), ())

def impl_isPlain_K1 (N : Nat) (s2 : ByteArray) (most2 : Int) (others2 : ByteArray) : Option (Bool × Unit) :=
  bif ile (slen s2) most2 then
    (strings_ContainsAny N s2 others2).bind fun r =>
    some (!r.1, ())
  else
    some (false, ())
def impl_isPlain_B1 (N : Nat) (kx : ByteArray → Int → ByteArray → Int → Int → Option (Bool × Unit)) (s1 : ByteArray) (most1 : Int) (others1 : ByteArray) (v9 : Int) (v10 : Int) : Option (Bool × Unit) :=
  bif ilt v10 v9 then
    chk (inB v10 s1.size) <|
    bif ilt (sbyte s1 v10) 32 then
      some (false, ())
    else
      chk (inB v10 s1.size) <|
      bif ilt 126 (sbyte s1 v10) then
        some (false, ())
      else
        kx s1 most1 others1 v9 (iadd .i64 v10 1)
  else
    impl_isPlain_K1 N s1 most1 others1
def impl_isPlain_L1 (N fu_ : Nat) (s1 : ByteArray) (most1 : Int) (others1 : ByteArray) (v9 : Int) (v10 : Int) : Option (Bool × Unit) :=
  iterK fu_ (fun kx (v_ : (ByteArray × Int × ByteArray × Int × Int × Unit) × (Unit)) => impl_isPlain_B1 N (fun s1 most1 others1 v9 v10 => kx ((s1, most1, others1, v9, v10, ()), ())) v_.1.1 v_.1.2.1 v_.1.2.2.1 v_.1.2.2.2.1 v_.1.2.2.2.2.1) ((s1, most1, others1, v9, v10, ()), ())
theorem impl_isPlain_L1_succ (N fu_ : Nat) (s1 : ByteArray) (most1 : Int) (others1 : ByteArray) (v9 : Int) (v10 : Int) : impl_isPlain_L1 N (fu_ + 1) s1 most1 others1 v9 v10 = impl_isPlain_B1 N (fun s1 most1 others1 v9 v10 => impl_isPlain_L1 N fu_ s1 most1 others1 v9 v10) s1 most1 others1 v9 v10 := rfl
theorem impl_isPlain_L1_run (N : Nat) (s1 : Nat → ByteArray) (most1 : Nat → Int) (others1 : Nat → ByteArray) (v9 : Nat → Int) (v10 : Nat → Int) (n_ : Nat) {res_ : Option (Bool × Unit)} (hstep_ : ∀ j_, j_ < n_ → ∀ kx_, impl_isPlain_B1 N kx_ (s1 j_) (most1 j_) (others1 j_) (v9 j_) (v10 j_) = kx_ (s1 (j_ + 1)) (most1 (j_ + 1)) (others1 (j_ + 1)) (v9 (j_ + 1)) (v10 (j_ + 1))) (hend_ : ∀ kx_, impl_isPlain_B1 N kx_ (s1 n_) (most1 n_) (others1 n_) (v9 n_) (v10 n_) = res_) (fu_ : Nat) (hm_ : n_ < fu_) : impl_isPlain_L1 N fu_ (s1 0) (most1 0) (others1 0) (v9 0) (v10 0) = res_ := by
  exact loop_run (L := fun fu_ (x_ : ByteArray × Int × ByteArray × Int × Int) => impl_isPlain_L1 N fu_ x_.1 x_.2.1 x_.2.2.1 x_.2.2.2.1 x_.2.2.2.2) (B := fun kx_ x_ => impl_isPlain_B1 N (fun s1 most1 others1 v9 v10 => kx_ (s1, most1, others1, v9, v10)) x_.1 x_.2.1 x_.2.2.1 x_.2.2.2.1 x_.2.2.2.2) (fun _ _ => rfl) (fun j_ => (s1 j_, most1 j_, others1 j_, v9 j_, v10 j_)) n_ (fun j_ hi_ kx_ => hstep_ j_ hi_ _) (fun kx_ => hend_ _) fu_ hm_
def impl_isPlain (N : Nat) (s : ByteArray) (most : Int) (others : ByteArray) : Option (Bool × Unit) :=
  impl_isPlain_L1 N N s most others (slen s) 0
def impl_isCommand (N : Nat) (s : ByteArray) : Option (Bool × Unit) :=
  bif !(Go.Rx.seq s (⟨#[]⟩ : ByteArray)) then
    (impl_isPlain N s 160 (⟨#[35, 64]⟩ : ByteArray)).bind fun r =>
    some (r.1, ())
  else
    some (false, ())
def impl_IsValidRecord (N : Nat) (e : ByteArray × ByteArray) : Option (Bool × Unit) :=
  (impl_isCommand N e.1).bind fun r =>
  bif r.1 then
    (impl_isPlain N e.2 200 (⟨#[35]⟩ : ByteArray)).bind fun r1 =>
    some (r1.1, ())
  else
    some (false, ())
def impl_within (N : Nat) (n : Int) (low : Int) (high : Int) : Option (Bool × Unit) :=
  bif ile low n then
    some (ile n high, ())
  else
    some (false, ())


def impl_checksum_K1 (N : Nat) (h1 : Int) : Option (Int × Unit) :=
  some (h1, ())
def impl_checksum_B1 (N : Nat) (kx : ByteArray → Int → Int → Int → Option (Int × Unit)) (s1 : ByteArray) (h : Int) (v6 : Int) (v7 : Int) : Option (Int × Unit) :=
  bif ilt v7 v6 then
    chk (inB v7 s1.size) <|
    chk (ine 999979 0) <|
    kx s1 (irem (iadd .i64 (iadd .i64 (imul .i64 41 h) (icv .i64 (sbyte s1 v7))) 1) 999979) v6 (iadd .i64 v7 1)
  else
    impl_checksum_K1 N h
def impl_checksum_L1 (N fu_ : Nat) (s1 : ByteArray) (h : Int) (v6 : Int) (v7 : Int) : Option (Int × Unit) :=
  iterK fu_ (fun kx (v_ : (ByteArray × Int × Int × Int × Unit) × (Unit)) => impl_checksum_B1 N (fun s1 h v6 v7 => kx ((s1, h, v6, v7, ()), ())) v_.1.1 v_.1.2.1 v_.1.2.2.1 v_.1.2.2.2.1) ((s1, h, v6, v7, ()), ())
theorem impl_checksum_L1_succ (N fu_ : Nat) (s1 : ByteArray) (h : Int) (v6 : Int) (v7 : Int) : impl_checksum_L1 N (fu_ + 1) s1 h v6 v7 = impl_checksum_B1 N (fun s1 h v6 v7 => impl_checksum_L1 N fu_ s1 h v6 v7) s1 h v6 v7 := rfl
theorem impl_checksum_L1_run (N : Nat) (s1 : Nat → ByteArray) (h : Nat → Int) (v6 : Nat → Int) (v7 : Nat → Int) (n_ : Nat) {res_ : Option (Int × Unit)} (hstep_ : ∀ j_, j_ < n_ → ∀ kx_, impl_checksum_B1 N kx_ (s1 j_) (h j_) (v6 j_) (v7 j_) = kx_ (s1 (j_ + 1)) (h (j_ + 1)) (v6 (j_ + 1)) (v7 (j_ + 1))) (hend_ : ∀ kx_, impl_checksum_B1 N kx_ (s1 n_) (h n_) (v6 n_) (v7 n_) = res_) (fu_ : Nat) (hm_ : n_ < fu_) : impl_checksum_L1 N fu_ (s1 0) (h 0) (v6 0) (v7 0) = res_ := by
  exact loop_run (L := fun fu_ (x_ : ByteArray × Int × Int × Int) => impl_checksum_L1 N fu_ x_.1 x_.2.1 x_.2.2.1 x_.2.2.2) (B := fun kx_ x_ => impl_checksum_B1 N (fun s1 h v6 v7 => kx_ (s1, h, v6, v7)) x_.1 x_.2.1 x_.2.2.1 x_.2.2.2) (fun _ _ => rfl) (fun j_ => (s1 j_, h j_, v6 j_, v7 j_)) n_ (fun j_ hi_ kx_ => hstep_ j_ hi_ _) (fun kx_ => hend_ _) fu_ hm_
def impl_checksum (N : Nat) (s : ByteArray) : Option (Int × Unit) :=
  impl_checksum_L1 N N s 7 (slen s) 0
def impl_AppendChecksum (N : Nat) (s : ByteArray) : Option ((ByteArray × Bool) × Unit) :=
  bif ilt 4000 (slen s) then
    some (((⟨#[]⟩ : ByteArray), false), ())
  else
    (strings_Contains N s (⟨#[35]⟩ : ByteArray)).bind fun r =>
    bif r.1 then
      some (((⟨#[]⟩ : ByteArray), false), ())
    else
      chk (sfit s (⟨#[35]⟩ : ByteArray)) <|
      (impl_checksum N s).bind fun r1 =>
      (strconv_Itoa N r1.1).bind fun r2 =>
      chk (sfit (scat s (⟨#[35]⟩ : ByteArray)) r2.1) <|
      bif ilt 4000 (slen (scat (scat s (⟨#[35]⟩ : ByteArray)) r2.1)) then
        some (((⟨#[]⟩ : ByteArray), false), ())
      else
        some ((scat (scat s (⟨#[35]⟩ : ByteArray)) r2.1, true), ())
def impl_EncodeRecord (N : Nat) (kx : Int) (e : ByteArray × ByteArray) : Option ((ByteArray × Bool) × Unit) :=
  (impl_within N kx 0 59).bind fun r =>
  bif !r.1 then
    some (((⟨#[]⟩ : ByteArray), false), ())
  else
    (impl_IsValidRecord N e).bind fun r1 =>
    bif !r1.1 then
      some (((⟨#[]⟩ : ByteArray), false), ())
    else
      (strconv_Itoa N kx).bind fun r2 =>
      chk (sfit r2.1 (⟨#[32]⟩ : ByteArray)) <|
      chk (sfit (scat r2.1 (⟨#[32]⟩ : ByteArray)) e.1) <|
      chk (sfit (scat (scat r2.1 (⟨#[32]⟩ : ByteArray)) e.1) (⟨#[64]⟩ : ByteArray)) <|
      chk (sfit (scat (scat (scat r2.1 (⟨#[32]⟩ : ByteArray)) e.1) (⟨#[64]⟩ : ByteArray)) e.2) <|
      (impl_AppendChecksum N (scat (scat (scat (scat r2.1 (⟨#[32]⟩ : ByteArray)) e.1) (⟨#[64]⟩ : ByteArray)) e.2)).bind fun r3 =>
      chk (sfit r3.1.1 (⟨#[10]⟩ : ByteArray)) <|
      some ((scat r3.1.1 (⟨#[10]⟩ : ByteArray), true), ())

def impl_VerifyChecksum (N : Nat) (s : ByteArray) : Option ((ByteArray × Bool) × Unit) :=
  (strings_Cut N s (⟨#[35]⟩ : ByteArray)).bind fun r =>
  (impl_AppendChecksum N r.1.1).bind fun r1 =>
  bif !r1.1.2 then
    some (((⟨#[]⟩ : ByteArray), false), ())
  else
    bif !(Go.Rx.seq r1.1.1 s) then
      some (((⟨#[]⟩ : ByteArray), false), ())
    else
      some ((r.1.1, true), ())
def impl_readRecords_K1 (N : Nat) (v41 : List (ByteArray × ByteArray)) (v51 : List Int) : Option (((List (ByteArray × ByteArray)) × (List Int)) × Unit) :=
  some ((v41, v51), ())
def impl_readRecords_B1 (N : Nat) (kx : ByteArray → Int → (List (ByteArray × ByteArray)) → (List Int) → Option (((List (ByteArray × ByteArray)) × (List Int)) × Unit)) (app1 : ByteArray) (v6 : Int) (v4 : List (ByteArray × ByteArray)) (v5 : List Int) : Option (((List (ByteArray × ByteArray)) × (List Int)) × Unit) :=
  bif ilt (len v4) 60 then
    chk (cutB v6 (slen app1) app1.size) <|
    (strings_Cut N (scut app1 v6 (slen app1)) (⟨#[10]⟩ : ByteArray)).bind fun r =>
    bif !r.1.2.2 then
      impl_readRecords_K1 N v4 v5
    else
      (impl_VerifyChecksum N r.1.1).bind fun r1 =>
      (strings_Cut N r1.1.1 (⟨#[32]⟩ : ByteArray)).bind fun r2 =>
      (strings_Cut N r2.1.2.1 (⟨#[64]⟩ : ByteArray)).bind fun r3 =>
      (impl_EncodeRecord N (len v4) (r3.1.1, r3.1.2.1)).bind fun r4 =>
      bif !r4.1.2 then
        impl_readRecords_K1 N v4 v5
      else
        chk (sfit r.1.1 (⟨#[10]⟩ : ByteArray)) <|
        bif !(Go.Rx.seq r4.1.1 (scat r.1.1 (⟨#[10]⟩ : ByteArray))) then
          impl_readRecords_K1 N v4 v5
        else
          chk (fitB (v4.length + 1) 32) <|
          chk (fitB (v5.length + 1) 8) <|
          kx app1 (iadd .i64 v6 (iadd .i64 (slen r.1.1) 1)) (v4 ++ [(r3.1.1, r3.1.2.1)]) (v5 ++ [iadd .i64 v6 (iadd .i64 (slen r.1.1) 1)])
  else
    impl_readRecords_K1 N v4 v5
def impl_readRecords_L1 (N fu_ : Nat) (app1 : ByteArray) (v6 : Int) (v4 : List (ByteArray × ByteArray)) (v5 : List Int) : Option (((List (ByteArray × ByteArray)) × (List Int)) × Unit) :=
  iterK fu_ (fun kx (v_ : (ByteArray × Int × Unit) × ((List (ByteArray × ByteArray)) × (List Int) × Unit)) => impl_readRecords_B1 N (fun app1 v6 v4 v5 => kx ((app1, v6, ()), (v4, v5, ()))) v_.1.1 v_.1.2.1 v_.2.1 v_.2.2.1) ((app1, v6, ()), (v4, v5, ()))
theorem impl_readRecords_L1_succ (N fu_ : Nat) (app1 : ByteArray) (v6 : Int) (v4 : List (ByteArray × ByteArray)) (v5 : List Int) : impl_readRecords_L1 N (fu_ + 1) app1 v6 v4 v5 = impl_readRecords_B1 N (fun app1 v6 v4 v5 => impl_readRecords_L1 N fu_ app1 v6 v4 v5) app1 v6 v4 v5 := rfl
theorem impl_readRecords_L1_run (N : Nat) (app1 : Nat → ByteArray) (v6 : Nat → Int) (v4 : Nat → (List (ByteArray × ByteArray))) (v5 : Nat → (List Int)) (n_ : Nat) {res_ : Option (((List (ByteArray × ByteArray)) × (List Int)) × Unit)} (hstep_ : ∀ j_, j_ < n_ → ∀ kx_, impl_readRecords_B1 N kx_ (app1 j_) (v6 j_) (v4 j_) (v5 j_) = kx_ (app1 (j_ + 1)) (v6 (j_ + 1)) (v4 (j_ + 1)) (v5 (j_ + 1))) (hend_ : ∀ kx_, impl_readRecords_B1 N kx_ (app1 n_) (v6 n_) (v4 n_) (v5 n_) = res_) (fu_ : Nat) (hm_ : n_ < fu_) : impl_readRecords_L1 N fu_ (app1 0) (v6 0) (v4 0) (v5 0) = res_ := by
  exact loop_run (L := fun fu_ (x_ : ByteArray × Int × (List (ByteArray × ByteArray)) × (List Int)) => impl_readRecords_L1 N fu_ x_.1 x_.2.1 x_.2.2.1 x_.2.2.2) (B := fun kx_ x_ => impl_readRecords_B1 N (fun app1 v6 v4 v5 => kx_ (app1, v6, v4, v5)) x_.1 x_.2.1 x_.2.2.1 x_.2.2.2) (fun _ _ => rfl) (fun j_ => (app1 j_, v6 j_, v4 j_, v5 j_)) n_ (fun j_ hi_ kx_ => hstep_ j_ hi_ _) (fun kx_ => hend_ _) fu_ hm_
def impl_readRecords (N : Nat) (app : ByteArray) : Option (((List (ByteArray × ByteArray)) × (List Int)) × Unit) :=
  impl_readRecords_L1 N N app 0 [] [0]
def slices_Index_int_int_K1 (N : Nat) : Option (Int × Unit) :=
  some ((-1), ())
def slices_Index_int_int_B1 (N : Nat) (kx : (List Int) → Int → Int → Int → Option (Int × Unit)) (s1 : List Int) (v1 : Int) (v7 : Int) (v8 : Int) : Option (Int × Unit) :=
  bif ilt v8 v7 then
    chk (inB v8 s1.length) <|
    bif ieq v1 (gd s1 v8.toNat 0) then
      some (v8, ())
    else
      kx s1 v1 v7 (iadd .i64 v8 1)
  else
    slices_Index_int_int_K1 N
def slices_Index_int_int_L1 (N fu_ : Nat) (s1 : List Int) (v1 : Int) (v7 : Int) (v8 : Int) : Option (Int × Unit) :=
  iterK fu_ (fun kx (v_ : ((List Int) × Int × Int × Int × Unit) × (Unit)) => slices_Index_int_int_B1 N (fun s1 v1 v7 v8 => kx ((s1, v1, v7, v8, ()), ())) v_.1.1 v_.1.2.1 v_.1.2.2.1 v_.1.2.2.2.1) ((s1, v1, v7, v8, ()), ())
theorem slices_Index_int_int_L1_succ (N fu_ : Nat) (s1 : List Int) (v1 : Int) (v7 : Int) (v8 : Int) : slices_Index_int_int_L1 N (fu_ + 1) s1 v1 v7 v8 = slices_Index_int_int_B1 N (fun s1 v1 v7 v8 => slices_Index_int_int_L1 N fu_ s1 v1 v7 v8) s1 v1 v7 v8 := rfl
theorem slices_Index_int_int_L1_run (N : Nat) (s1 : Nat → (List Int)) (v1 : Nat → Int) (v7 : Nat → Int) (v8 : Nat → Int) (n_ : Nat) {res_ : Option (Int × Unit)} (hstep_ : ∀ j_, j_ < n_ → ∀ kx_, slices_Index_int_int_B1 N kx_ (s1 j_) (v1 j_) (v7 j_) (v8 j_) = kx_ (s1 (j_ + 1)) (v1 (j_ + 1)) (v7 (j_ + 1)) (v8 (j_ + 1))) (hend_ : ∀ kx_, slices_Index_int_int_B1 N kx_ (s1 n_) (v1 n_) (v7 n_) (v8 n_) = res_) (fu_ : Nat) (hm_ : n_ < fu_) : slices_Index_int_int_L1 N fu_ (s1 0) (v1 0) (v7 0) (v8 0) = res_ := by
  exact loop_run (L := fun fu_ (x_ : (List Int) × Int × Int × Int) => slices_Index_int_int_L1 N fu_ x_.1 x_.2.1 x_.2.2.1 x_.2.2.2) (B := fun kx_ x_ => slices_Index_int_int_B1 N (fun s1 v1 v7 v8 => kx_ (s1, v1, v7, v8)) x_.1 x_.2.1 x_.2.2.1 x_.2.2.2) (fun _ _ => rfl) (fun j_ => (s1 j_, v1 j_, v7 j_, v8 j_)) n_ (fun j_ hi_ kx_ => hstep_ j_ hi_ _) (fun kx_ => hend_ _) fu_ hm_
def slices_Index_int_int (N : Nat) (s : List Int) (v : Int) : Option (Int × Unit) :=
  slices_Index_int_int_L1 N N s v (len s) 0
def slices_Contains_int_int (N : Nat) (s : List Int) (v : Int) : Option (Bool × Unit) :=
  (slices_Index_int_int N s v).bind fun r =>
  some (ile 0 r.1, ())
def impl_IsValidLog (N : Nat) (l : ByteArray × ByteArray × Int) : Option (Bool × Unit) :=
  bif ilt 30000 (iadd .i64 (slen l.1) (slen l.2.1)) then
    some (false, ())
  else
    chk (sfit l.1 l.2.1) <|
    (impl_readRecords N (scat l.1 l.2.1)).bind fun r =>
    chk (inB (len r.1.1) r.1.2.length) <|
    bif ieq (gd r.1.2 (len r.1.1).toNat 0) (iadd .i64 (slen l.1) (slen l.2.1)) then
      bif ieq l.2.2 (len r.1.1) then
        (slices_Contains_int_int N r.1.2 (slen l.1)).bind fun r1 =>
        some (r1.1, ())
      else
        some (false, ())
    else
      some (false, ())
def impl_CrashLog (N : Nat) (l : ByteArray × ByteArray × Int) (keep : Int) (torn : Bool) : Option ((ByteArray × Bool) × Unit) :=
  (impl_IsValidLog N l).bind fun r =>
  bif !r.1 then
    some (((⟨#[]⟩ : ByteArray), false), ())
  else
    (impl_within N keep 0 (slen l.2.1)).bind fun r1 =>
    bif !r1.1 then
      some (((⟨#[]⟩ : ByteArray), false), ())
    else
      chk (cutB 0 keep l.2.1.size) <|
      chk (sfit l.1 (scut l.2.1 0 keep)) <|
      chk (fitB (scat l.1 (scut l.2.1 0 keep)).size 1) <|
      bif torn then
        bif ilt 0 keep then
          chk (inB (isub .i64 (len (sbytes (scat l.1 (scut l.2.1 0 keep)))) 1) (sbytes (scat l.1 (scut l.2.1 0 keep))).length) <|
          chk (inB (isub .i64 (len (sbytes (scat l.1 (scut l.2.1 0 keep)))) 1) (sbytes (scat l.1 (scut l.2.1 0 keep))).length) <|
          some ((bstr (List.set (sbytes (scat l.1 (scut l.2.1 0 keep))) (isub .i64 (len (sbytes (scat l.1 (scut l.2.1 0 keep)))) 1).toNat (isub .u8 255 (gd (sbytes (scat l.1 (scut l.2.1 0 keep))) (isub .i64 (len (sbytes (scat l.1 (scut l.2.1 0 keep)))) 1).toNat 0))), true), ())
        else
          some ((bstr (sbytes (scat l.1 (scut l.2.1 0 keep))), true), ())
      else
        some ((bstr (sbytes (scat l.1 (scut l.2.1 0 keep))), true), ())
def laws_vBig (N : Nat) (code : List Int) : Option (Bool × Unit) :=
  some (ilt 65536 (len code), ())
def laws_vCut (N : Nat) (code : List Int) (n : Int) : Option ((List Int) × Unit) :=
  bif ilt (len code) n then
    chk (cutB (len code) (len code) code.length) <|
    chk (fitB (0 + (cut code (len code) (len code)).length) 1) <|
    chk (fitB ((cut code (len code) (len code)).length + 1) 1) <|
    some ((cut code (len code) (len code)) ++ [icv .u8 (len code)], ())
  else
    chk (cutB n (len code) code.length) <|
    chk (fitB (0 + (cut code n (len code)).length) 1) <|
    chk (fitB ((cut code n (len code)).length + 1) 1) <|
    some ((cut code n (len code)) ++ [icv .u8 n], ())
def impl_LogRecords (N : Nat) (l : ByteArray × ByteArray × Int) : Option (((List (ByteArray × ByteArray)) × Bool) × Unit) :=
  (impl_IsValidLog N l).bind fun r =>
  bif !r.1 then
    some (([], false), ())
  else
    chk (sfit l.1 l.2.1) <|
    (impl_readRecords N (scat l.1 l.2.1)).bind fun r1 =>
    some ((r1.1.1, true), ())
def laws_vRecords_K1 (N : Nat) : Option (Bool × Unit) :=
  some (true, ())
def laws_vRecords_B1 (N : Nat) (kx : (List (ByteArray × ByteArray)) → (List (ByteArray × ByteArray)) → Int → Option (Bool × Unit)) (a1 : List (ByteArray × ByteArray)) (b1 : List (ByteArray × ByteArray)) (i : Int) : Option (Bool × Unit) :=
  bif ilt i (len a1) then
    chk (inB i a1.length) <|
    chk (inB i b1.length) <|
    bif !((Go.Rx.seq (gd a1 i.toNat ((⟨#[]⟩ : ByteArray), (⟨#[]⟩ : ByteArray))).1 (gd b1 i.toNat ((⟨#[]⟩ : ByteArray), (⟨#[]⟩ : ByteArray))).1) && (Go.Rx.seq (gd a1 i.toNat ((⟨#[]⟩ : ByteArray), (⟨#[]⟩ : ByteArray))).2 (gd b1 i.toNat ((⟨#[]⟩ : ByteArray), (⟨#[]⟩ : ByteArray))).2)) then
      some (false, ())
    else
      kx a1 b1 (iadd .i64 i 1)
  else
    laws_vRecords_K1 N
def laws_vRecords_L1 (N fu_ : Nat) (a1 : List (ByteArray × ByteArray)) (b1 : List (ByteArray × ByteArray)) (i : Int) : Option (Bool × Unit) :=
  iterK fu_ (fun kx (v_ : ((List (ByteArray × ByteArray)) × (List (ByteArray × ByteArray)) × Int × Unit) × (Unit)) => laws_vRecords_B1 N (fun a1 b1 i => kx ((a1, b1, i, ()), ())) v_.1.1 v_.1.2.1 v_.1.2.2.1) ((a1, b1, i, ()), ())
theorem laws_vRecords_L1_succ (N fu_ : Nat) (a1 : List (ByteArray × ByteArray)) (b1 : List (ByteArray × ByteArray)) (i : Int) : laws_vRecords_L1 N (fu_ + 1) a1 b1 i = laws_vRecords_B1 N (fun a1 b1 i => laws_vRecords_L1 N fu_ a1 b1 i) a1 b1 i := rfl
theorem laws_vRecords_L1_run (N : Nat) (a1 : Nat → (List (ByteArray × ByteArray))) (b1 : Nat → (List (ByteArray × ByteArray))) (i : Nat → Int) (n_ : Nat) {res_ : Option (Bool × Unit)} (hstep_ : ∀ j_, j_ < n_ → ∀ kx_, laws_vRecords_B1 N kx_ (a1 j_) (b1 j_) (i j_) = kx_ (a1 (j_ + 1)) (b1 (j_ + 1)) (i (j_ + 1))) (hend_ : ∀ kx_, laws_vRecords_B1 N kx_ (a1 n_) (b1 n_) (i n_) = res_) (fu_ : Nat) (hm_ : n_ < fu_) : laws_vRecords_L1 N fu_ (a1 0) (b1 0) (i 0) = res_ := by
  exact loop_run (L := fun fu_ (x_ : (List (ByteArray × ByteArray)) × (List (ByteArray × ByteArray)) × Int) => laws_vRecords_L1 N fu_ x_.1 x_.2.1 x_.2.2) (B := fun kx_ x_ => laws_vRecords_B1 N (fun a1 b1 i => kx_ (a1, b1, i)) x_.1 x_.2.1 x_.2.2) (fun _ _ => rfl) (fun j_ => (a1 j_, b1 j_, i j_)) n_ (fun j_ hi_ kx_ => hstep_ j_ hi_ _) (fun kx_ => hend_ _) fu_ hm_
def laws_vRecords (N : Nat) (a : List (ByteArray × ByteArray)) (b : List (ByteArray × ByteArray)) : Option (Bool × Unit) :=
  bif ine (len a) (len b) then
    some (false, ())
  else
    laws_vRecords_L1 N N a b 0
def pspec_l1Cur_next_K1 (N : Nat) (b : Int) (c1 : (List Int) × Int × Int) : Option (Int × ((List Int) × Int × Int)) :=
  bif ile (iadd .i64 c1.2.1 1) (len c1.1) then
    some (b, (c1.1, (iadd .i64 c1.2.1 1, iadd .u64 (iadd .u64 (imul .u64 c1.2.2 6364136223846793005) (icv .u64 b)) 462197)))
  else
    chk (ile 0 40) <|
    some (icv .i64 (iand .u64 (ishr .u64 (iadd .u64 (iadd .u64 (imul .u64 c1.2.2 6364136223846793005) (icv .u64 b)) 462197) 40) 255), (c1.1, (iadd .i64 c1.2.1 1, iadd .u64 (iadd .u64 (imul .u64 c1.2.2 6364136223846793005) (icv .u64 b)) 462197)))
def pspec_l1Cur_next (N : Nat) (c : (List Int) × Int × Int) : Option (Int × ((List Int) × Int × Int)) :=
  bif ilt c.2.1 (len c.1) then
    chk (inB c.2.1 c.1.length) <|
    pspec_l1Cur_next_K1 N (icv .i64 (gd c.1 c.2.1.toNat 0)) c
  else
    pspec_l1Cur_next_K1 N 0 c
def pspec_l1Cur_pick (N : Nat) (c : (List Int) × Int × Int) (n : Int) : Option (Int × ((List Int) × Int × Int)) :=
  bif ile n 1 then
    some (0, c)
  else
    (pspec_l1Cur_next N c).bind fun r =>
    bif ilt 200 n then
      (pspec_l1Cur_next N r.2).bind fun r1 =>
      chk (ine n 0) <|
      some (irem (iadd .i64 (imul .i64 r.1 256) r1.1) n, r1.2)
    else
      chk (ine n 0) <|
      some (irem r.1 n, r.2)
def spec_AppendRecord (N : Nat) (l : ByteArray × ByteArray × Int) (e : ByteArray × ByteArray) : Option (((ByteArray × ByteArray × Int) × Int) × Unit) :=
  (spec_l12Valid N l).bind fun r =>
  bif !r.1 then
    some ((l, 1), ())
  else
    (spec_l12Record N e).bind fun r1 =>
    bif !r1.1 then
      some ((l, 1), ())
    else
      bif ieq l.2.2 60 then
        some ((l, 2), ())
      else
        (spec_l12Line N l.2.2 e).bind fun r2 =>
        chk (sfit l.2.1 r2.1) <|
        some (((l.1, (scat l.2.1 r2.1, iadd .i64 l.2.2 1)), 0), ())
def spec_SyncLog (N : Nat) (l : ByteArray × ByteArray × Int) : Option (((ByteArray × ByteArray × Int) × Bool) × Unit) :=
  (spec_l12Valid N l).bind fun r =>
  bif !r.1 then
    some ((((⟨#[]⟩ : ByteArray), ((⟨#[]⟩ : ByteArray), 0)), false), ())
  else
    chk (sfit l.1 l.2.1) <|
    some (((scat l.1 l.2.1, ((⟨#[]⟩ : ByteArray), l.2.2)), true), ())
def pspec_l1Cur_of (N : Nat) (c : (List Int) × Int × Int) (list : List ByteArray) : Option (ByteArray × ((List Int) × Int × Int)) :=
  (pspec_l1Cur_pick N c (len list)).bind fun r =>
  chk (inB r.1 list.length) <|
  some (gd list r.1.toNat (⟨#[]⟩ : ByteArray), r.2)
def pspec_l1Cur_logRecord (N : Nat) (c : (List Int) × Int × Int) : Option ((ByteArray × ByteArray) × ((List Int) × Int × Int)) :=
  (pspec_l1Cur_of N c [(⟨#[115, 116, 111, 99, 107]⟩ : ByteArray), (⟨#[111, 114, 100, 101, 114, 32, 48, 32, 53]⟩ : ByteArray), (⟨#[120]⟩ : ByteArray), (⟨#[110, 101, 101, 100, 32, 49, 32, 50]⟩ : ByteArray), (⟨#[48, 32, 49]⟩ : ByteArray)]).bind fun r =>
  (pspec_l1Cur_of N r.2 [(⟨#[]⟩ : ByteArray), (⟨#[51]⟩ : ByteArray), (⟨#[63]⟩ : ByteArray), (⟨#[97, 64, 98]⟩ : ByteArray), (⟨#[51, 32, 49, 32, 50]⟩ : ByteArray)]).bind fun r1 =>
  (pspec_l1Cur_pick N r1.2 24).bind fun r2 =>
  bif ieq r2.1 0 then
    chk (mkB 3 1) <|
    (pspec_l1Cur_of N r2.2 [(⟨#[]⟩ : ByteArray), (⟨#[97, 64, 98]⟩ : ByteArray), (⟨#[97, 35]⟩ : ByteArray), (⟨#[10]⟩ : ByteArray), bstr (List.replicate 3 0)]).bind fun r3 =>
    some ((r3.1, r1.1), r3.2)
  else
    bif ieq r2.1 1 then
      (pspec_l1Cur_of N r2.2 [(⟨#[35]⟩ : ByteArray), (⟨#[10]⟩ : ByteArray), (⟨#[127]⟩ : ByteArray)]).bind fun r4 =>
      some ((r.1, r4.1), r4.2)
    else
      some ((r.1, r1.1), r2.2)
def pspec_l1Cur_one (N : Nat) (c : (List Int) × Int × Int) (n : Int) : Option (Bool × ((List Int) × Int × Int)) :=
  (pspec_l1Cur_pick N c n).bind fun r =>
  some (ieq r.1 0, r.2)
def pspec_l1Cur_log12_K1 (N : Nat) (c2 : (List Int) × Int × Int) (v21 : ByteArray × ByteArray × Int) (l1 : ByteArray × ByteArray × Int) : Option ((ByteArray × ByteArray × Int) × ((List Int) × Int × Int)) :=
  some (l1, c2)
def pspec_l1Cur_log12_B1 (N : Nat) (kx : Int → ((List Int) × Int × Int) → (ByteArray × ByteArray × Int) → (ByteArray × ByteArray × Int) → Option ((ByteArray × ByteArray × Int) × ((List Int) × Int × Int))) (n : Int) (c1 : (List Int) × Int × Int) (v2 : ByteArray × ByteArray × Int) (l : ByteArray × ByteArray × Int) : Option ((ByteArray × ByteArray × Int) × ((List Int) × Int × Int)) :=
  bif ilt 0 n then
    (pspec_l1Cur_logRecord N c1).bind fun r1 =>
    (spec_AppendRecord N l r1.1).bind fun r2 =>
    (pspec_l1Cur_one N r1.2 4).bind fun r3 =>
    bif r3.1 then
      (spec_SyncLog N r2.1.1).bind fun r4 =>
      kx (isub .i64 n 1) r3.2 v2 r4.1.1
    else
      kx (isub .i64 n 1) r3.2 v2 r2.1.1
  else
    pspec_l1Cur_log12_K1 N c1 v2 l
def pspec_l1Cur_log12_L1 (N fu_ : Nat) (n : Int) (c1 : (List Int) × Int × Int) (v2 : ByteArray × ByteArray × Int) (l : ByteArray × ByteArray × Int) : Option ((ByteArray × ByteArray × Int) × ((List Int) × Int × Int)) :=
  iterK fu_ (fun kx (v_ : (Int × Unit) × (((List Int) × Int × Int) × (ByteArray × ByteArray × Int) × (ByteArray × ByteArray × Int) × Unit)) => pspec_l1Cur_log12_B1 N (fun n c1 v2 l => kx ((n, ()), (c1, v2, l, ()))) v_.1.1 v_.2.1 v_.2.2.1 v_.2.2.2.1) ((n, ()), (c1, v2, l, ()))
theorem pspec_l1Cur_log12_L1_succ (N fu_ : Nat) (n : Int) (c1 : (List Int) × Int × Int) (v2 : ByteArray × ByteArray × Int) (l : ByteArray × ByteArray × Int) : pspec_l1Cur_log12_L1 N (fu_ + 1) n c1 v2 l = pspec_l1Cur_log12_B1 N (fun n c1 v2 l => pspec_l1Cur_log12_L1 N fu_ n c1 v2 l) n c1 v2 l := rfl
theorem pspec_l1Cur_log12_L1_run (N : Nat) (n : Nat → Int) (c1 : Nat → ((List Int) × Int × Int)) (v2 : Nat → (ByteArray × ByteArray × Int)) (l : Nat → (ByteArray × ByteArray × Int)) (n_ : Nat) {res_ : Option ((ByteArray × ByteArray × Int) × ((List Int) × Int × Int))} (hstep_ : ∀ j_, j_ < n_ → ∀ kx_, pspec_l1Cur_log12_B1 N kx_ (n j_) (c1 j_) (v2 j_) (l j_) = kx_ (n (j_ + 1)) (c1 (j_ + 1)) (v2 (j_ + 1)) (l (j_ + 1))) (hend_ : ∀ kx_, pspec_l1Cur_log12_B1 N kx_ (n n_) (c1 n_) (v2 n_) (l n_) = res_) (fu_ : Nat) (hm_ : n_ < fu_) : pspec_l1Cur_log12_L1 N fu_ (n 0) (c1 0) (v2 0) (l 0) = res_ := by
  exact loop_run (L := fun fu_ (x_ : Int × ((List Int) × Int × Int) × (ByteArray × ByteArray × Int) × (ByteArray × ByteArray × Int)) => pspec_l1Cur_log12_L1 N fu_ x_.1 x_.2.1 x_.2.2.1 x_.2.2.2) (B := fun kx_ x_ => pspec_l1Cur_log12_B1 N (fun n c1 v2 l => kx_ (n, c1, v2, l)) x_.1 x_.2.1 x_.2.2.1 x_.2.2.2) (fun _ _ => rfl) (fun j_ => (n j_, c1 j_, v2 j_, l j_)) n_ (fun j_ hi_ kx_ => hstep_ j_ hi_ _) (fun kx_ => hend_ _) fu_ hm_
def pspec_l1Cur_log12 (N : Nat) (c : (List Int) × Int × Int) : Option ((ByteArray × ByteArray × Int) × ((List Int) × Int × Int)) :=
  (pspec_l1Cur_pick N c 7).bind fun r =>
  pspec_l1Cur_log12_L1 N N r.1 r.2 ((⟨#[]⟩ : ByteArray), ((⟨#[]⟩ : ByteArray), 0)) ((⟨#[]⟩ : ByteArray), ((⟨#[]⟩ : ByteArray), 0))
def pspec_l1Cur_spoilt (N : Nat) (c : (List Int) × Int × Int) (t : ByteArray) (withx : ByteArray) : Option (ByteArray × ((List Int) × Int × Int)) :=
  bif Go.Rx.seq t (⟨#[]⟩ : ByteArray) then
    chk (cutB 0 1 withx.size) <|
    some (scut withx 0 1, c)
  else
    (pspec_l1Cur_pick N c (slen t)).bind fun r =>
    (pspec_l1Cur_pick N r.2 (slen withx)).bind fun r1 =>
    chk (cutB r1.1 (slen withx) withx.size) <|
    chk (cutB 0 1 (scut withx r1.1 (slen withx)).size) <|
    (pspec_l1Cur_pick N r1.2 3).bind fun r2 =>
    bif ieq r2.1 0 then
      chk (cutB 0 r.1 t.size) <|
      chk (sfit (scut t 0 r.1) (scut (scut withx r1.1 (slen withx)) 0 1)) <|
      chk (cutB r.1 (slen t) t.size) <|
      chk (sfit (scat (scut t 0 r.1) (scut (scut withx r1.1 (slen withx)) 0 1)) (scut t r.1 (slen t))) <|
      some (scat (scat (scut t 0 r.1) (scut (scut withx r1.1 (slen withx)) 0 1)) (scut t r.1 (slen t)), r2.2)
    else
      bif ieq r2.1 1 then
        chk (cutB 0 r.1 t.size) <|
        chk (sfit (scut t 0 r.1) (scut (scut withx r1.1 (slen withx)) 0 1)) <|
        chk (cutB (iadd .i64 r.1 1) (slen t) t.size) <|
        chk (sfit (scat (scut t 0 r.1) (scut (scut withx r1.1 (slen withx)) 0 1)) (scut t (iadd .i64 r.1 1) (slen t))) <|
        some (scat (scat (scut t 0 r.1) (scut (scut withx r1.1 (slen withx)) 0 1)) (scut t (iadd .i64 r.1 1) (slen t)), r2.2)
      else
        chk (cutB 0 r.1 t.size) <|
        chk (cutB (iadd .i64 r.1 1) (slen t) t.size) <|
        chk (sfit (scut t 0 r.1) (scut t (iadd .i64 r.1 1) (slen t))) <|
        some (scat (scut t 0 r.1) (scut t (iadd .i64 r.1 1) (slen t)), r2.2)
def pspec_l1Cur_anyLog (N : Nat) (c : (List Int) × Int × Int) : Option ((ByteArray × ByteArray × Int) × ((List Int) × Int × Int)) :=
  (pspec_l1Cur_log12 N c).bind fun r =>
  (pspec_l1Cur_pick N r.2 24).bind fun r1 =>
  bif ieq r1.1 0 then
    some ((r.1.1, (r.1.2.1, iadd .i64 r.1.2.2 1)), r1.2)
  else
    bif ieq r1.1 1 then
      (pspec_l1Cur_spoilt N r1.2 r.1.2.1 (⟨#[35, 64, 10, 48, 49]⟩ : ByteArray)).bind fun r2 =>
      some ((r.1.1, (r2.1, r.1.2.2)), r2.2)
    else
      bif ieq r1.1 2 then
        chk (sfit r.1.1 r.1.2.1) <|
        some ((scat r.1.1 r.1.2.1, r.1.2), r1.2)
      else
        some (r.1, r1.2)
def spec_DrawCrashLog (N : Nat) (code : List Int) : Option (((ByteArray × ByteArray × Int) × Int × Bool) × Unit) :=
  (pspec_l1Cur_anyLog N (code, (0, 0))).bind fun r =>
  (pspec_l1Cur_pick N r.2 (iadd .i64 (slen r.1.2.1) 3)).bind fun r1 =>
  (pspec_l1Cur_one N r1.2 2).bind fun r2 =>
  some ((r.1, (isub .i64 r1.1 1, r2.1)), ())
def spec_DrawRecoverLog_K1 (N : Nat) (s : ByteArray) (c : (List Int) × Int × Int) : Option (ByteArray × Unit) :=
  (pspec_l1Cur_one N c 40).bind fun r7 =>
  bif r7.1 then
    (pspec_l1Cur_pick N r7.2 2).bind fun r8 =>
    chk (mkB (iadd .i64 30000 r8.1) 1) <|
    some (bstr (List.replicate (iadd .i64 30000 r8.1).toNat 0), ())
  else
    some (s, ())
def spec_DrawRecoverLog (N : Nat) (code : List Int) : Option (ByteArray × Unit) :=
  (pspec_l1Cur_log12 N (code, (0, 0))).bind fun r =>
  chk (sfit r.1.1 r.1.2.1) <|
  (pspec_l1Cur_pick N r.2 4).bind fun r1 =>
  bif ieq r1.1 0 then
    (pspec_l1Cur_spoilt N r1.2 (scat r.1.1 r.1.2.1) (⟨#[35, 64, 10, 48, 49]⟩ : ByteArray)).bind fun r2 =>
    spec_DrawRecoverLog_K1 N r2.1 r2.2
  else
    bif ieq r1.1 1 then
      (pspec_l1Cur_pick N r1.2 (iadd .i64 (slen (scat r.1.1 r.1.2.1)) 1)).bind fun r3 =>
      chk (cutB 0 r3.1 (scat r.1.1 r.1.2.1).size) <|
      spec_DrawRecoverLog_K1 N (scut (scat r.1.1 r.1.2.1) 0 r3.1) r3.2
    else
      bif ieq r1.1 2 then
        (pspec_l1Cur_pick N r1.2 4).bind fun r4 =>
        (pspec_l1Cur_logRecord N r4.2).bind fun r5 =>
        (spec_l12Line N r4.1 r5.1).bind fun r6 =>
        chk (sfit (scat r.1.1 r.1.2.1) r6.1) <|
        spec_DrawRecoverLog_K1 N (scat (scat r.1.1 r.1.2.1) r6.1) r5.2
      else
        spec_DrawRecoverLog_K1 N (scat r.1.1 r.1.2.1) r1.2
def impl_RecoverLog (N : Nat) (s : ByteArray) : Option (((ByteArray × ByteArray × Int) × Int × Bool) × Unit) :=
  bif ilt 30000 (slen s) then
    some ((((⟨#[]⟩ : ByteArray), ((⟨#[]⟩ : ByteArray), 0)), (0, false)), ())
  else
    (impl_readRecords N s).bind fun r =>
    chk (inB (len r.1.1) r.1.2.length) <|
    chk (cutB 0 (gd r.1.2 (len r.1.1).toNat 0) s.size) <|
    some (((scut s 0 (gd r.1.2 (len r.1.1).toNat 0), ((⟨#[]⟩ : ByteArray), len r.1.1)), (gd r.1.2 (len r.1.1).toNat 0, true)), ())
def spec_RecoverLog (N : Nat) (s : ByteArray) : Option (((ByteArray × ByteArray × Int) × Int × Bool) × Unit) :=
  bif ilt 30000 (slen s) then
    some ((((⟨#[]⟩ : ByteArray), ((⟨#[]⟩ : ByteArray), 0)), (0, false)), ())
  else
    (spec_l12Open N s).bind fun r =>
    chk (cutB 0 r.1.2 s.size) <|
    some (((scut s 0 r.1.2, ((⟨#[]⟩ : ByteArray), len r.1.1)), (r.1.2, true)), ())
def laws_FnCrashes (N : Nat) (app : List Int) : Option (Bool × Unit) :=
  (laws_vBig N app).bind fun r =>
  bif r.1 then
    some (true, ())
  else
    (spec_DrawCrashLog N app).bind fun r1 =>
    (impl_CrashLog N r1.1.1 r1.1.2.1 r1.1.2.2).bind fun r2 =>
    (spec_CrashLog N r1.1.1 r1.1.2.1 r1.1.2.2).bind fun r3 =>
    (laws_vCut N app 1).bind fun r4 =>
    (spec_DrawRecoverLog N r4.1).bind fun r5 =>
    (impl_RecoverLog N r5.1).bind fun r6 =>
    (spec_RecoverLog N r5.1).bind fun r7 =>
    bif !(Go.Rx.seq r2.1.1 r3.1.1) then
      some (false, ())
    else
      bif !(Go.Rx.beq r2.1.2 r3.1.2) then
        some (false, ())
      else
        bif !((Go.Rx.seq r6.1.1.1 r7.1.1.1) && ((Go.Rx.seq r6.1.1.2.1 r7.1.1.2.1) && (ieq r6.1.1.2.2 r7.1.1.2.2))) then
          some (false, ())
        else
          bif ine r6.1.2.1 r7.1.2.1 then
            some (false, ())
          else
            bif !(Go.Rx.beq r6.1.2.2 r7.1.2.2) then
              some (false, ())
            else
              bif !r2.1.2 then
                some (true, ())
              else
                (impl_RecoverLog N r2.1.1).bind fun r8 =>
                bif !r8.1.2.2 then
                  some (false, ())
                else
                  (impl_IsValidLog N r8.1.1).bind fun r9 =>
                  bif !r9.1 then
                    some (false, ())
                  else
                    bif ilt r8.1.2.1 (slen r1.1.1.1) then
                      some (false, ())
                    else
                      bif ine (slen r8.1.1.1) r8.1.2.1 then
                        some (false, ())
                      else
                        (impl_LogRecords N r1.1.1).bind fun r10 =>
                        (impl_LogRecords N r8.1.1).bind fun r11 =>
                        bif ile (len r11.1.1) (len r10.1.1) then
                          chk (cutB 0 (len r11.1.1) r10.1.1.length) <|
                          (laws_vRecords N r11.1.1 (List.take ((len r11.1.1).toNat - 0) (List.drop 0 r10.1.1))).bind fun r12 =>
                          bif r12.1 then
                            bif r1.1.2.2 then
                              some (true, ())
                            else
                              bif ilt r1.1.2.1 (slen r1.1.1.2.1) then
                                some (true, ())
                              else
                                some (ieq (len r11.1.1) (len r10.1.1), ())
                          else
                            some (false, ())
                        else
                          some (false, ())
end Px
end Go.Rx
