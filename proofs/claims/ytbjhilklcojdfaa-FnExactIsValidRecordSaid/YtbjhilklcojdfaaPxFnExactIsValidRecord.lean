/- This text defines the plain functions that the Go functions behind FnExactIsValidRecord compute; no condition. -/
import Derived.Test.YtbjhilklcojdfaaRxd
set_option linter.unusedVariables false
set_option linter.unusedSimpArgs false
namespace Go.Rx
namespace Px
def laws_szLogRecord (N : Nat) (a : ByteArray × ByteArray) (left : Int) : Option (Int × Unit) :=
  bif ilt (isub .i64 left (slen a.1)) 0 then
    some ((-1), ())
  else
    bif ilt (isub .i64 (isub .i64 left (slen a.1)) (slen a.2)) 0 then
      some ((-1), ())
    else
      some (isub .i64 (isub .i64 left (slen a.1)) (slen a.2), ())
def spec_l1In (N : Nat) (x : Int) (a : Int) (b : Int) : Option (Bool × Unit) :=
  bif ile a x then
    some (ile x b, ())
  else
    some (false, ())
def spec_l12Bytes_K1 (N : Nat) (s2 : ByteArray) (most2 : Int) : Option (Bool × Unit) :=
  some (ile (slen s2) most2, ())
def spec_l12Bytes_B1 (N : Nat) (kx : ByteArray → Int → Int → Option (Bool × Unit)) (s1 : ByteArray) (most1 : Int) (i : Int) : Option (Bool × Unit) :=
  bif ilt i (slen s1) then
    chk (inB i s1.size) <|
    (spec_l1In N (icv .i64 (sbyte s1 i)) 32 126).bind fun r =>
    bif !r.1 then
      some (false, ())
    else
      chk (inB i s1.size) <|
      bif ieq (sbyte s1 i) 35 then
        some (false, ())
      else
        kx s1 most1 (iadd .i64 i 1)
  else
    spec_l12Bytes_K1 N s1 most1
def spec_l12Bytes_L1 (N fu_ : Nat) (s1 : ByteArray) (most1 : Int) (i : Int) : Option (Bool × Unit) :=
  iterK fu_ (fun kx (v_ : (ByteArray × Int × Int × Unit) × (Unit)) => spec_l12Bytes_B1 N (fun s1 most1 i => kx ((s1, most1, i, ()), ())) v_.1.1 v_.1.2.1 v_.1.2.2.1) ((s1, most1, i, ()), ())
theorem spec_l12Bytes_L1_succ (N fu_ : Nat) (s1 : ByteArray) (most1 : Int) (i : Int) : spec_l12Bytes_L1 N (fu_ + 1) s1 most1 i = spec_l12Bytes_B1 N (fun s1 most1 i => spec_l12Bytes_L1 N fu_ s1 most1 i) s1 most1 i := rfl
theorem spec_l12Bytes_L1_run (N : Nat) (s1 : Nat → ByteArray) (most1 : Nat → Int) (i : Nat → Int) (n_ : Nat) {res_ : Option (Bool × Unit)} (hstep_ : ∀ j_, j_ < n_ → ∀ kx_, spec_l12Bytes_B1 N kx_ (s1 j_) (most1 j_) (i j_) = kx_ (s1 (j_ + 1)) (most1 (j_ + 1)) (i (j_ + 1))) (hend_ : ∀ kx_, spec_l12Bytes_B1 N kx_ (s1 n_) (most1 n_) (i n_) = res_) (fu_ : Nat) (hm_ : n_ < fu_) : spec_l12Bytes_L1 N fu_ (s1 0) (most1 0) (i 0) = res_ := by
  exact loop_run (L := fun fu_ (x_ : ByteArray × Int × Int) => spec_l12Bytes_L1 N fu_ x_.1 x_.2.1 x_.2.2) (B := fun kx_ x_ => spec_l12Bytes_B1 N (fun s1 most1 i => kx_ (s1, most1, i)) x_.1 x_.2.1 x_.2.2) (fun _ _ => rfl) (fun j_ => (s1 j_, most1 j_, i j_)) n_ (fun j_ hi_ kx_ => hstep_ j_ hi_ _) (fun kx_ => hend_ _) fu_ hm_
def spec_l12Bytes (N : Nat) (s : ByteArray) (most : Int) : Option (Bool × Unit) :=
  spec_l12Bytes_L1 N N s most 0
def spec_l1Stands_K1 (N : Nat) : Option (Bool × Unit) :=
  some (false, ())
def spec_l1Stands_B1 (N : Nat) (kx : ByteArray → Int → Int → Option (Bool × Unit)) (s1 : ByteArray) (b1 : Int) (i : Int) : Option (Bool × Unit) :=
  bif ilt i (slen s1) then
    chk (inB i s1.size) <|
    bif ieq (sbyte s1 i) b1 then
      some (true, ())
    else
      kx s1 b1 (iadd .i64 i 1)
  else
    spec_l1Stands_K1 N
def spec_l1Stands_L1 (N fu_ : Nat) (s1 : ByteArray) (b1 : Int) (i : Int) : Option (Bool × Unit) :=
  iterK fu_ (fun kx (v_ : (ByteArray × Int × Int × Unit) × (Unit)) => spec_l1Stands_B1 N (fun s1 b1 i => kx ((s1, b1, i, ()), ())) v_.1.1 v_.1.2.1 v_.1.2.2.1) ((s1, b1, i, ()), ())
theorem spec_l1Stands_L1_succ (N fu_ : Nat) (s1 : ByteArray) (b1 : Int) (i : Int) : spec_l1Stands_L1 N (fu_ + 1) s1 b1 i = spec_l1Stands_B1 N (fun s1 b1 i => spec_l1Stands_L1 N fu_ s1 b1 i) s1 b1 i := rfl
theorem spec_l1Stands_L1_run (N : Nat) (s1 : Nat → ByteArray) (b1 : Nat → Int) (i : Nat → Int) (n_ : Nat) {res_ : Option (Bool × Unit)} (hstep_ : ∀ j_, j_ < n_ → ∀ kx_, spec_l1Stands_B1 N kx_ (s1 j_) (b1 j_) (i j_) = kx_ (s1 (j_ + 1)) (b1 (j_ + 1)) (i (j_ + 1))) (hend_ : ∀ kx_, spec_l1Stands_B1 N kx_ (s1 n_) (b1 n_) (i n_) = res_) (fu_ : Nat) (hm_ : n_ < fu_) : spec_l1Stands_L1 N fu_ (s1 0) (b1 0) (i 0) = res_ := by
  exact loop_run (L := fun fu_ (x_ : ByteArray × Int × Int) => spec_l1Stands_L1 N fu_ x_.1 x_.2.1 x_.2.2) (B := fun kx_ x_ => spec_l1Stands_B1 N (fun s1 b1 i => kx_ (s1, b1, i)) x_.1 x_.2.1 x_.2.2) (fun _ _ => rfl) (fun j_ => (s1 j_, b1 j_, i j_)) n_ (fun j_ hi_ kx_ => hstep_ j_ hi_ _) (fun kx_ => hend_ _) fu_ hm_
def spec_l1Stands (N : Nat) (s : ByteArray) (b : Int) : Option (Bool × Unit) :=
  spec_l1Stands_L1 N N s b 0
def spec_l12Record (N : Nat) (e : ByteArray × ByteArray) : Option (Bool × Unit) :=
  bif !(Go.Rx.seq e.1 (⟨#[]⟩ : ByteArray)) then
    (spec_l12Bytes N e.1 160).bind fun r =>
    bif r.1 then
      (spec_l1Stands N e.1 64).bind fun r1 =>
      bif !r1.1 then
        (spec_l12Bytes N e.2 200).bind fun r2 =>
        some (r2.1, ())
      else
        some (false, ())
    else
      some (false, ())
  else
    some (false, ())
def spec_IsValidRecord (N : Nat) (e : ByteArray × ByteArray) : Option (Bool × Unit) :=
  (spec_l12Record N e).bind fun r =>
  some (r.1, ())
def laws_toLogRecord (N : Nat) (a : ByteArray × ByteArray) : Option ((ByteArray × ByteArray) × Unit) :=
  some ((a.1, a.2), ())

def impl_isPlain_K1 (N : Nat) (s2 : ByteArray) (most2 : Int) (others2 : ByteArray) : Option (Bool × Unit) :=
  bif ile (slen s2) most2 then
    (strings_ContainsAny N s2 others2).bind fun r =>
    some (!r.1, ())
  else
    some (false, ())
def impl_isPlain_B1 (N : Nat) (kx : ByteArray → Int → ByteArray → Int → Int → Option (Bool × Unit)) (s1 : ByteArray) (most1 : Int) (others1 : ByteArray) (v9 : Int) (v10 : Int) : Option (Bool × Unit) :=
  bif ilt v10 v9 then
    chk (inB v10 s1.size) <|
    bif ilt (sbyte s1 v10) 32 then
      some (false, ())
    else
      chk (inB v10 s1.size) <|
      bif ilt 126 (sbyte s1 v10) then
        some (false, ())
      else
        kx s1 most1 others1 v9 (iadd .i64 v10 1)
  else
    impl_isPlain_K1 N s1 most1 others1
def impl_isPlain_L1 (N fu_ : Nat) (s1 : ByteArray) (most1 : Int) (others1 : ByteArray) (v9 : Int) (v10 : Int) : Option (Bool × Unit) :=
  iterK fu_ (fun kx (v_ : (ByteArray × Int × ByteArray × Int × Int × Unit) × (Unit)) => impl_isPlain_B1 N (fun s1 most1 others1 v9 v10 => kx ((s1, most1, others1, v9, v10, ()), ())) v_.1.1 v_.1.2.1 v_.1.2.2.1 v_.1.2.2.2.1 v_.1.2.2.2.2.1) ((s1, most1, others1, v9, v10, ()), ())
theorem impl_isPlain_L1_succ (N fu_ : Nat) (s1 : ByteArray) (most1 : Int) (others1 : ByteArray) (v9 : Int) (v10 : Int) : impl_isPlain_L1 N (fu_ + 1) s1 most1 others1 v9 v10 = impl_isPlain_B1 N (fun s1 most1 others1 v9 v10 => impl_isPlain_L1 N fu_ s1 most1 others1 v9 v10) s1 most1 others1 v9 v10 := rfl
theorem impl_isPlain_L1_run (N : Nat) (s1 : Nat → ByteArray) (most1 : Nat → Int) (others1 : Nat → ByteArray) (v9 : Nat → Int) (v10 : Nat → Int) (n_ : Nat) {res_ : Option (Bool × Unit)} (hstep_ : ∀ j_, j_ < n_ → ∀ kx_, impl_isPlain_B1 N kx_ (s1 j_) (most1 j_) (others1 j_) (v9 j_) (v10 j_) = kx_ (s1 (j_ + 1)) (most1 (j_ + 1)) (others1 (j_ + 1)) (v9 (j_ + 1)) (v10 (j_ + 1))) (hend_ : ∀ kx_, impl_isPlain_B1 N kx_ (s1 n_) (most1 n_) (others1 n_) (v9 n_) (v10 n_) = res_) (fu_ : Nat) (hm_ : n_ < fu_) : impl_isPlain_L1 N fu_ (s1 0) (most1 0) (others1 0) (v9 0) (v10 0) = res_ := by
  exact loop_run (L := fun fu_ (x_ : ByteArray × Int × ByteArray × Int × Int) => impl_isPlain_L1 N fu_ x_.1 x_.2.1 x_.2.2.1 x_.2.2.2.1 x_.2.2.2.2) (B := fun kx_ x_ => impl_isPlain_B1 N (fun s1 most1 others1 v9 v10 => kx_ (s1, most1, others1, v9, v10)) x_.1 x_.2.1 x_.2.2.1 x_.2.2.2.1 x_.2.2.2.2) (fun _ _ => rfl) (fun j_ => (s1 j_, most1 j_, others1 j_, v9 j_, v10 j_)) n_ (fun j_ hi_ kx_ => hstep_ j_ hi_ _) (fun kx_ => hend_ _) fu_ hm_
def impl_isPlain (N : Nat) (s : ByteArray) (most : Int) (others : ByteArray) : Option (Bool × Unit) :=
  impl_isPlain_L1 N N s most others (slen s) 0
def impl_isCommand (N : Nat) (s : ByteArray) : Option (Bool × Unit) :=
  bif !(Go.Rx.seq s (⟨#[]⟩ : ByteArray)) then
    (impl_isPlain N s 160 (⟨#[35, 64]⟩ : ByteArray)).bind fun r =>
    some (r.1, ())
  else
    some (false, ())
def impl_IsValidRecord (N : Nat) (e : ByteArray × ByteArray) : Option (Bool × Unit) :=
  (impl_isCommand N e.1).bind fun r =>
  bif r.1 then
    (impl_isPlain N e.2 200 (⟨#[35]⟩ : ByteArray)).bind fun r1 =>
    some (r1.1, ())
  else
    some (false, ())
def laws_FnExactIsValidRecord (N : Nat) (aE : ByteArray × ByteArray) : Option (Bool × Unit) :=
  (laws_szLogRecord N aE 1048576).bind fun r =>
  bif ilt r.1 0 then
    some (true, ())
  else
    (laws_toLogRecord N aE).bind fun r1 =>
    (spec_IsValidRecord N r1.1).bind fun r2 =>
    (laws_toLogRecord N aE).bind fun r3 =>
    (impl_IsValidRecord N r3.1).bind fun r4 =>
    bif !(Go.Rx.beq r4.1 r2.1) then
      some (false, ())
    else
      some (true, ())
end Px
end Go.Rx
