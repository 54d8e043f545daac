/- This text defines the plain functions that the Go functions behind FnExactIsValidConsole compute; no condition. -/
import Derived.Test.YtibdakhenfnoeaaDoorRxd
set_option linter.unusedVariables false
set_option linter.unusedSimpArgs false
namespace Go.Rx
namespace Px
def laws_szIntS (N : Nat) (a : List Int) (left : Int) : Option (Int × Unit) :=
  bif ilt (isub .i64 left (len a)) 0 then
    some ((-1), ())
  else
    some (isub .i64 left (len a), ())
def laws_szCase (N : Nat) (a : (List Int) × (List Int) × (List Int) × (List Int)) (left : Int) : Option (Int × Unit) :=
  (laws_szIntS N a.1 left).bind fun r =>
  bif ilt r.1 0 then
    some ((-1), ())
  else
    (laws_szIntS N a.2.1 r.1).bind fun r1 =>
    bif ilt r1.1 0 then
      some ((-1), ())
    else
      (laws_szIntS N a.2.2.1 r1.1).bind fun r2 =>
      bif ilt r2.1 0 then
        some ((-1), ())
      else
        (laws_szIntS N a.2.2.2 r2.1).bind fun r3 =>
        bif ilt r3.1 0 then
          some ((-1), ())
        else
          some (r3.1, ())
def laws_szLedger (N : Nat) (a : ((List Int) × (List Int) × (List Int) × (List Int)) × (List Int) × Int) (left : Int) : Option (Int × Unit) :=
  (laws_szCase N a.1 left).bind fun r =>
  bif ilt r.1 0 then
    some ((-1), ())
  else
    (laws_szIntS N a.2.1 r.1).bind fun r1 =>
    bif ilt r1.1 0 then
      some ((-1), ())
    else
      some (r1.1, ())
def laws_szLog (N : Nat) (a : ByteArray × ByteArray × Int) (left : Int) : Option (Int × Unit) :=
  bif ilt (isub .i64 left (slen a.1)) 0 then
    some ((-1), ())
  else
    bif ilt (isub .i64 (isub .i64 left (slen a.1)) (slen a.2.1)) 0 then
      some ((-1), ())
    else
      some (isub .i64 (isub .i64 left (slen a.1)) (slen a.2.1), ())
def laws_szConsole (N : Nat) (a : (((List Int) × (List Int) × (List Int) × (List Int)) × (List Int) × Int) × ByteArray × ByteArray × Int) (left : Int) : Option (Int × Unit) :=
  (laws_szLedger N a.1 left).bind fun r =>
  bif ilt r.1 0 then
    some ((-1), ())
  else
    (laws_szLog N a.2 r.1).bind fun r1 =>
    bif ilt r1.1 0 then
      some ((-1), ())
    else
      some (r1.1, ())
def spec_l1In (N : Nat) (x : Int) (a : Int) (b : Int) : Option (Bool × Unit) :=
  bif ile a x then
    some (ile x b, ())
  else
    some (false, ())
def spec_l2Row_K1 (N : Nat) (row2 : List Int) (n2 : Int) : Option (Bool × Unit) :=
  some (ieq (len row2) n2, ())
def spec_l2Row_B1 (N : Nat) (kx : (List Int) → Int → Int → Int → Option (Bool × Unit)) (row1 : List Int) (n1 : Int) (most1 : Int) (i : Int) : Option (Bool × Unit) :=
  bif ilt i (len row1) then
    chk (inB i row1.length) <|
    (spec_l1In N (gd row1 i.toNat 0) 0 most1).bind fun r =>
    bif !r.1 then
      some (false, ())
    else
      kx row1 n1 most1 (iadd .i64 i 1)
  else
    spec_l2Row_K1 N row1 n1
def spec_l2Row_L1 (N fu_ : Nat) (row1 : List Int) (n1 : Int) (most1 : Int) (i : Int) : Option (Bool × Unit) :=
  iterK fu_ (fun kx (v_ : ((List Int) × Int × Int × Int × Unit) × (Unit)) => spec_l2Row_B1 N (fun row1 n1 most1 i => kx ((row1, n1, most1, i, ()), ())) v_.1.1 v_.1.2.1 v_.1.2.2.1 v_.1.2.2.2.1) ((row1, n1, most1, i, ()), ())
theorem spec_l2Row_L1_succ (N fu_ : Nat) (row1 : List Int) (n1 : Int) (most1 : Int) (i : Int) : spec_l2Row_L1 N (fu_ + 1) row1 n1 most1 i = spec_l2Row_B1 N (fun row1 n1 most1 i => spec_l2Row_L1 N fu_ row1 n1 most1 i) row1 n1 most1 i := rfl
theorem spec_l2Row_L1_run (N : Nat) (row1 : Nat → (List Int)) (n1 : Nat → Int) (most1 : Nat → Int) (i : Nat → Int) (n_ : Nat) {res_ : Option (Bool × Unit)} (hstep_ : ∀ j_, j_ < n_ → ∀ kx_, spec_l2Row_B1 N kx_ (row1 j_) (n1 j_) (most1 j_) (i j_) = kx_ (row1 (j_ + 1)) (n1 (j_ + 1)) (most1 (j_ + 1)) (i (j_ + 1))) (hend_ : ∀ kx_, spec_l2Row_B1 N kx_ (row1 n_) (n1 n_) (most1 n_) (i n_) = res_) (fu_ : Nat) (hm_ : n_ < fu_) : spec_l2Row_L1 N fu_ (row1 0) (n1 0) (most1 0) (i 0) = res_ := by
  exact loop_run (L := fun fu_ (x_ : (List Int) × Int × Int × Int) => spec_l2Row_L1 N fu_ x_.1 x_.2.1 x_.2.2.1 x_.2.2.2) (B := fun kx_ x_ => spec_l2Row_B1 N (fun row1 n1 most1 i => kx_ (row1, n1, most1, i)) x_.1 x_.2.1 x_.2.2.1 x_.2.2.2) (fun _ _ => rfl) (fun j_ => (row1 j_, n1 j_, most1 j_, i j_)) n_ (fun j_ hi_ kx_ => hstep_ j_ hi_ _) (fun kx_ => hend_ _) fu_ hm_
def spec_l2Row (N : Nat) (row : List Int) (n : Int) (most : Int) : Option (Bool × Unit) :=
  spec_l2Row_L1 N N row n most 0
def spec_l2Good (N : Nat) (c : (List Int) × (List Int) × (List Int) × (List Int)) : Option (Bool × Unit) :=
  bif ile (len c.1) 8 then
    (spec_l2Row N c.1 (len c.1) 20).bind fun r =>
    bif r.1 then
      (spec_l2Row N c.2.1 (len c.1) 99).bind fun r1 =>
      bif r1.1 then
        (spec_l2Row N c.2.2.1 (len c.1) 9).bind fun r2 =>
        bif r2.1 then
          (spec_l2Row N c.2.2.2 (len c.1) 9).bind fun r3 =>
          some (r3.1, ())
        else
          some (false, ())
      else
        some (false, ())
    else
      some (false, ())
  else
    some (false, ())
def spec_l12Stock_K1 (N : Nat) (sum1 : Int) : Option (Int × Unit) :=
  some (sum1, ())
def spec_l12Stock_B1 (N : Nat) (kx : Int → Int → Int → (((List Int) × (List Int) × (List Int) × (List Int)) × (List Int) × Int) → Option (Int × Unit)) (many1 : Int) (sum : Int) (t : Int) (l1 : ((List Int) × (List Int) × (List Int) × (List Int)) × (List Int) × Int) : Option (Int × Unit) :=
  bif ilt t many1 then
    chk (inB t l1.2.1.length) <|
    chk (inB t l1.1.1.length) <|
    kx many1 (isub .i64 (iadd .i64 sum (gd l1.2.1 t.toNat 0)) (gd l1.1.1 t.toNat 0)) (iadd .i64 t 1) l1
  else
    spec_l12Stock_K1 N sum
def spec_l12Stock_L1 (N fu_ : Nat) (many1 : Int) (sum : Int) (t : Int) (l1 : ((List Int) × (List Int) × (List Int) × (List Int)) × (List Int) × Int) : Option (Int × Unit) :=
  iterK fu_ (fun kx (v_ : (Int × Int × Int × Unit) × ((((List Int) × (List Int) × (List Int) × (List Int)) × (List Int) × Int) × Unit)) => spec_l12Stock_B1 N (fun many1 sum t l1 => kx ((many1, sum, t, ()), (l1, ()))) v_.1.1 v_.1.2.1 v_.1.2.2.1 v_.2.1) ((many1, sum, t, ()), (l1, ()))
theorem spec_l12Stock_L1_succ (N fu_ : Nat) (many1 : Int) (sum : Int) (t : Int) (l1 : ((List Int) × (List Int) × (List Int) × (List Int)) × (List Int) × Int) : spec_l12Stock_L1 N (fu_ + 1) many1 sum t l1 = spec_l12Stock_B1 N (fun many1 sum t l1 => spec_l12Stock_L1 N fu_ many1 sum t l1) many1 sum t l1 := rfl
theorem spec_l12Stock_L1_run (N : Nat) (many1 : Nat → Int) (sum : Nat → Int) (t : Nat → Int) (l1 : Nat → (((List Int) × (List Int) × (List Int) × (List Int)) × (List Int) × Int)) (n_ : Nat) {res_ : Option (Int × Unit)} (hstep_ : ∀ j_, j_ < n_ → ∀ kx_, spec_l12Stock_B1 N kx_ (many1 j_) (sum j_) (t j_) (l1 j_) = kx_ (many1 (j_ + 1)) (sum (j_ + 1)) (t (j_ + 1)) (l1 (j_ + 1))) (hend_ : ∀ kx_, spec_l12Stock_B1 N kx_ (many1 n_) (sum n_) (t n_) (l1 n_) = res_) (fu_ : Nat) (hm_ : n_ < fu_) : spec_l12Stock_L1 N fu_ (many1 0) (sum 0) (t 0) (l1 0) = res_ := by
  exact loop_run (L := fun fu_ (x_ : Int × Int × Int × (((List Int) × (List Int) × (List Int) × (List Int)) × (List Int) × Int)) => spec_l12Stock_L1 N fu_ x_.1 x_.2.1 x_.2.2.1 x_.2.2.2) (B := fun kx_ x_ => spec_l12Stock_B1 N (fun many1 sum t l1 => kx_ (many1, sum, t, l1)) x_.1 x_.2.1 x_.2.2.1 x_.2.2.2) (fun _ _ => rfl) (fun j_ => (many1 j_, sum j_, t j_, l1 j_)) n_ (fun j_ hi_ kx_ => hstep_ j_ hi_ _) (fun kx_ => hend_ _) fu_ hm_
def spec_l12Stock (N : Nat) (l : ((List Int) × (List Int) × (List Int) × (List Int)) × (List Int) × Int) (many : Int) : Option (Int × Unit) :=
  spec_l12Stock_L1 N N many 0 0 l
def spec_l12Good_K1 (N : Nat) : Option (Bool × Unit) :=
  some (true, ())
def spec_l12Good_B1 (N : Nat) (kx : Int → (((List Int) × (List Int) × (List Int) × (List Int)) × (List Int) × Int) → Option (Bool × Unit)) (t : Int) (l1 : ((List Int) × (List Int) × (List Int) × (List Int)) × (List Int) × Int) : Option (Bool × Unit) :=
  bif ile t l1.2.2 then
    (spec_l12Stock N l1 t).bind fun r3 =>
    bif ilt r3.1 0 then
      some (false, ())
    else
      kx (iadd .i64 t 1) l1
  else
    spec_l12Good_K1 N
def spec_l12Good_L1 (N fu_ : Nat) (t : Int) (l1 : ((List Int) × (List Int) × (List Int) × (List Int)) × (List Int) × Int) : Option (Bool × Unit) :=
  iterK fu_ (fun kx (v_ : (Int × Unit) × ((((List Int) × (List Int) × (List Int) × (List Int)) × (List Int) × Int) × Unit)) => spec_l12Good_B1 N (fun t l1 => kx ((t, ()), (l1, ()))) v_.1.1 v_.2.1) ((t, ()), (l1, ()))
theorem spec_l12Good_L1_succ (N fu_ : Nat) (t : Int) (l1 : ((List Int) × (List Int) × (List Int) × (List Int)) × (List Int) × Int) : spec_l12Good_L1 N (fu_ + 1) t l1 = spec_l12Good_B1 N (fun t l1 => spec_l12Good_L1 N fu_ t l1) t l1 := rfl
theorem spec_l12Good_L1_run (N : Nat) (t : Nat → Int) (l1 : Nat → (((List Int) × (List Int) × (List Int) × (List Int)) × (List Int) × Int)) (n_ : Nat) {res_ : Option (Bool × Unit)} (hstep_ : ∀ j_, j_ < n_ → ∀ kx_, spec_l12Good_B1 N kx_ (t j_) (l1 j_) = kx_ (t (j_ + 1)) (l1 (j_ + 1))) (hend_ : ∀ kx_, spec_l12Good_B1 N kx_ (t n_) (l1 n_) = res_) (fu_ : Nat) (hm_ : n_ < fu_) : spec_l12Good_L1 N fu_ (t 0) (l1 0) = res_ := by
  exact loop_run (L := fun fu_ (x_ : Int × (((List Int) × (List Int) × (List Int) × (List Int)) × (List Int) × Int)) => spec_l12Good_L1 N fu_ x_.1 x_.2) (B := fun kx_ x_ => spec_l12Good_B1 N (fun t l1 => kx_ (t, l1)) x_.1 x_.2) (fun _ _ => rfl) (fun j_ => (t j_, l1 j_)) n_ (fun j_ hi_ kx_ => hstep_ j_ hi_ _) (fun kx_ => hend_ _) fu_ hm_
def spec_l12Good (N : Nat) (l : ((List Int) × (List Int) × (List Int) × (List Int)) × (List Int) × Int) : Option (Bool × Unit) :=
  (spec_l2Good N l.1).bind fun r =>
  bif !r.1 then
    some (false, ())
  else
    (spec_l2Row N l.2.1 (len l.1.1) 200).bind fun r1 =>
    bif !r1.1 then
      some (false, ())
    else
      (spec_l1In N l.2.2 0 (len l.1.1)).bind fun r2 =>
      bif !r2.1 then
        some (false, ())
      else
        spec_l12Good_L1 N N 1 l
def spec_l1Split_K1 (N : Nat) (s2 : ByteArray) (fromx1 : Int) (out1 : List ByteArray) : Option ((List ByteArray) × Unit) :=
  chk (cutB fromx1 (slen s2) s2.size) <|
  chk (fitB (out1.length + 1) 16) <|
  some (out1 ++ [scut s2 fromx1 (slen s2)], ())
def spec_l1Split_B1 (N : Nat) (kx : ByteArray → Int → Int → Int → (List ByteArray) → Option ((List ByteArray) × Unit)) (s1 : ByteArray) (b1 : Int) (fromx : Int) (i : Int) (out : List ByteArray) : Option ((List ByteArray) × Unit) :=
  bif ilt i (slen s1) then
    chk (inB i s1.size) <|
    bif ieq (sbyte s1 i) b1 then
      chk (cutB fromx i s1.size) <|
      chk (fitB (out.length + 1) 16) <|
      kx s1 b1 (iadd .i64 i 1) (iadd .i64 i 1) (out ++ [scut s1 fromx i])
    else
      kx s1 b1 fromx (iadd .i64 i 1) out
  else
    spec_l1Split_K1 N s1 fromx out
def spec_l1Split_L1 (N fu_ : Nat) (s1 : ByteArray) (b1 : Int) (fromx : Int) (i : Int) (out : List ByteArray) : Option ((List ByteArray) × Unit) :=
  iterK fu_ (fun kx (v_ : (ByteArray × Int × Int × Int × Unit) × ((List ByteArray) × Unit)) => spec_l1Split_B1 N (fun s1 b1 fromx i out => kx ((s1, b1, fromx, i, ()), (out, ()))) v_.1.1 v_.1.2.1 v_.1.2.2.1 v_.1.2.2.2.1 v_.2.1) ((s1, b1, fromx, i, ()), (out, ()))
theorem spec_l1Split_L1_succ (N fu_ : Nat) (s1 : ByteArray) (b1 : Int) (fromx : Int) (i : Int) (out : List ByteArray) : spec_l1Split_L1 N (fu_ + 1) s1 b1 fromx i out = spec_l1Split_B1 N (fun s1 b1 fromx i out => spec_l1Split_L1 N fu_ s1 b1 fromx i out) s1 b1 fromx i out := rfl
theorem spec_l1Split_L1_run (N : Nat) (s1 : Nat → ByteArray) (b1 : Nat → Int) (fromx : Nat → Int) (i : Nat → Int) (out : Nat → (List ByteArray)) (n_ : Nat) {res_ : Option ((List ByteArray) × Unit)} (hstep_ : ∀ j_, j_ < n_ → ∀ kx_, spec_l1Split_B1 N kx_ (s1 j_) (b1 j_) (fromx j_) (i j_) (out j_) = kx_ (s1 (j_ + 1)) (b1 (j_ + 1)) (fromx (j_ + 1)) (i (j_ + 1)) (out (j_ + 1))) (hend_ : ∀ kx_, spec_l1Split_B1 N kx_ (s1 n_) (b1 n_) (fromx n_) (i n_) (out n_) = res_) (fu_ : Nat) (hm_ : n_ < fu_) : spec_l1Split_L1 N fu_ (s1 0) (b1 0) (fromx 0) (i 0) (out 0) = res_ := by
  exact loop_run (L := fun fu_ (x_ : ByteArray × Int × Int × Int × (List ByteArray)) => spec_l1Split_L1 N fu_ x_.1 x_.2.1 x_.2.2.1 x_.2.2.2.1 x_.2.2.2.2) (B := fun kx_ x_ => spec_l1Split_B1 N (fun s1 b1 fromx i out => kx_ (s1, b1, fromx, i, out)) x_.1 x_.2.1 x_.2.2.1 x_.2.2.2.1 x_.2.2.2.2) (fun _ _ => rfl) (fun j_ => (s1 j_, b1 j_, fromx j_, i j_, out j_)) n_ (fun j_ hi_ kx_ => hstep_ j_ hi_ _) (fun kx_ => hend_ _) fu_ hm_
def spec_l1Split (N : Nat) (s : ByteArray) (b : Int) : Option ((List ByteArray) × Unit) :=
  spec_l1Split_L1 N N s b 0 0 []
def spec_l1Num_F (N : Nat) (kr_ : Int → Option (ByteArray × Unit)) (n : Int) : Option (ByteArray × Unit) :=
  bif ilt n 0 then
    (kr_ (isub .i64 0 n)).bind fun r =>
    chk (sfit (⟨#[45]⟩ : ByteArray) r.1) <|
    some (scat (⟨#[45]⟩ : ByteArray) r.1, ())
  else
    bif ilt n 10 then
      chk (cutB n (iadd .i64 n 1) (⟨#[48, 49, 50, 51, 52, 53, 54, 55, 56, 57]⟩ : ByteArray).size) <|
      some (scut (⟨#[48, 49, 50, 51, 52, 53, 54, 55, 56, 57]⟩ : ByteArray) n (iadd .i64 n 1), ())
    else
      chk (ine 10 0) <|
      (kr_ (iquo .i64 n 10)).bind fun r1 =>
      chk (ine 10 0) <|
      chk (ine 10 0) <|
      chk (cutB (irem n 10) (iadd .i64 (irem n 10) 1) (⟨#[48, 49, 50, 51, 52, 53, 54, 55, 56, 57]⟩ : ByteArray).size) <|
      chk (sfit r1.1 (scut (⟨#[48, 49, 50, 51, 52, 53, 54, 55, 56, 57]⟩ : ByteArray) (irem n 10) (iadd .i64 (irem n 10) 1))) <|
      some (scat r1.1 (scut (⟨#[48, 49, 50, 51, 52, 53, 54, 55, 56, 57]⟩ : ByteArray) (irem n 10) (iadd .i64 (irem n 10) 1)), ())
def spec_l1Num_R (N : Nat) : Nat → Int → Option (ByteArray × Unit)
  | 0 => fun _ => none
  | k_ + 1 => spec_l1Num_F N (spec_l1Num_R N k_)
theorem spec_l1Num_R_succ (N k_ : Nat) (n : Int) : spec_l1Num_R N (k_ + 1) n = spec_l1Num_F N (spec_l1Num_R N k_) n := rfl
def spec_l1Num (N : Nat) (n : Int) : Option (ByteArray × Unit) := spec_l1Num_R N N n
def spec_l12Bytes_K1 (N : Nat) (s2 : ByteArray) (most2 : Int) : Option (Bool × Unit) :=
  some (ile (slen s2) most2, ())
def spec_l12Bytes_B1 (N : Nat) (kx : ByteArray → Int → Int → Option (Bool × Unit)) (s1 : ByteArray) (most1 : Int) (i : Int) : Option (Bool × Unit) :=
  bif ilt i (slen s1) then
    chk (inB i s1.size) <|
    (spec_l1In N (icv .i64 (sbyte s1 i)) 32 126).bind fun r =>
    bif !r.1 then
      some (false, ())
    else
      chk (inB i s1.size) <|
      bif ieq (sbyte s1 i) 35 then
        some (false, ())
      else
        kx s1 most1 (iadd .i64 i 1)
  else
    spec_l12Bytes_K1 N s1 most1
def spec_l12Bytes_L1 (N fu_ : Nat) (s1 : ByteArray) (most1 : Int) (i : Int) : Option (Bool × Unit) :=
  iterK fu_ (fun kx (v_ : (ByteArray × Int × Int × Unit) × (Unit)) => spec_l12Bytes_B1 N (fun s1 most1 i => kx ((s1, most1, i, ()), ())) v_.1.1 v_.1.2.1 v_.1.2.2.1) ((s1, most1, i, ()), ())
theorem spec_l12Bytes_L1_succ (N fu_ : Nat) (s1 : ByteArray) (most1 : Int) (i : Int) : spec_l12Bytes_L1 N (fu_ + 1) s1 most1 i = spec_l12Bytes_B1 N (fun s1 most1 i => spec_l12Bytes_L1 N fu_ s1 most1 i) s1 most1 i := rfl
theorem spec_l12Bytes_L1_run (N : Nat) (s1 : Nat → ByteArray) (most1 : Nat → Int) (i : Nat → Int) (n_ : Nat) {res_ : Option (Bool × Unit)} (hstep_ : ∀ j_, j_ < n_ → ∀ kx_, spec_l12Bytes_B1 N kx_ (s1 j_) (most1 j_) (i j_) = kx_ (s1 (j_ + 1)) (most1 (j_ + 1)) (i (j_ + 1))) (hend_ : ∀ kx_, spec_l12Bytes_B1 N kx_ (s1 n_) (most1 n_) (i n_) = res_) (fu_ : Nat) (hm_ : n_ < fu_) : spec_l12Bytes_L1 N fu_ (s1 0) (most1 0) (i 0) = res_ := by
  exact loop_run (L := fun fu_ (x_ : ByteArray × Int × Int) => spec_l12Bytes_L1 N fu_ x_.1 x_.2.1 x_.2.2) (B := fun kx_ x_ => spec_l12Bytes_B1 N (fun s1 most1 i => kx_ (s1, most1, i)) x_.1 x_.2.1 x_.2.2) (fun _ _ => rfl) (fun j_ => (s1 j_, most1 j_, i j_)) n_ (fun j_ hi_ kx_ => hstep_ j_ hi_ _) (fun kx_ => hend_ _) fu_ hm_
def spec_l12Bytes (N : Nat) (s : ByteArray) (most : Int) : Option (Bool × Unit) :=
  spec_l12Bytes_L1 N N s most 0
def spec_l1Stands_K1 (N : Nat) : Option (Bool × Unit) :=
  some (false, ())
def spec_l1Stands_B1 (N : Nat) (kx : ByteArray → Int → Int → Option (Bool × Unit)) (s1 : ByteArray) (b1 : Int) (i : Int) : Option (Bool × Unit) :=
  bif ilt i (slen s1) then
    chk (inB i s1.size) <|
    bif ieq (sbyte s1 i) b1 then
      some (true, ())
    else
      kx s1 b1 (iadd .i64 i 1)
  else
    spec_l1Stands_K1 N
def spec_l1Stands_L1 (N fu_ : Nat) (s1 : ByteArray) (b1 : Int) (i : Int) : Option (Bool × Unit) :=
  iterK fu_ (fun kx (v_ : (ByteArray × Int × Int × Unit) × (Unit)) => spec_l1Stands_B1 N (fun s1 b1 i => kx ((s1, b1, i, ()), ())) v_.1.1 v_.1.2.1 v_.1.2.2.1) ((s1, b1, i, ()), ())
theorem spec_l1Stands_L1_succ (N fu_ : Nat) (s1 : ByteArray) (b1 : Int) (i : Int) : spec_l1Stands_L1 N (fu_ + 1) s1 b1 i = spec_l1Stands_B1 N (fun s1 b1 i => spec_l1Stands_L1 N fu_ s1 b1 i) s1 b1 i := rfl
theorem spec_l1Stands_L1_run (N : Nat) (s1 : Nat → ByteArray) (b1 : Nat → Int) (i : Nat → Int) (n_ : Nat) {res_ : Option (Bool × Unit)} (hstep_ : ∀ j_, j_ < n_ → ∀ kx_, spec_l1Stands_B1 N kx_ (s1 j_) (b1 j_) (i j_) = kx_ (s1 (j_ + 1)) (b1 (j_ + 1)) (i (j_ + 1))) (hend_ : ∀ kx_, spec_l1Stands_B1 N kx_ (s1 n_) (b1 n_) (i n_) = res_) (fu_ : Nat) (hm_ : n_ < fu_) : spec_l1Stands_L1 N fu_ (s1 0) (b1 0) (i 0) = res_ := by
  exact loop_run (L := fun fu_ (x_ : ByteArray × Int × Int) => spec_l1Stands_L1 N fu_ x_.1 x_.2.1 x_.2.2) (B := fun kx_ x_ => spec_l1Stands_B1 N (fun s1 b1 i => kx_ (s1, b1, i)) x_.1 x_.2.1 x_.2.2) (fun _ _ => rfl) (fun j_ => (s1 j_, b1 j_, i j_)) n_ (fun j_ hi_ kx_ => hstep_ j_ hi_ _) (fun kx_ => hend_ _) fu_ hm_
def spec_l1Stands (N : Nat) (s : ByteArray) (b : Int) : Option (Bool × Unit) :=
  spec_l1Stands_L1 N N s b 0
def spec_l12Record (N : Nat) (e : ByteArray × ByteArray) : Option (Bool × Unit) :=
  bif !(Go.Rx.seq e.1 (⟨#[]⟩ : ByteArray)) then
    (spec_l12Bytes N e.1 160).bind fun r =>
    bif r.1 then
      (spec_l1Stands N e.1 64).bind fun r1 =>
      bif !r1.1 then
        (spec_l12Bytes N e.2 200).bind fun r2 =>
        some (r2.1, ())
      else
        some (false, ())
    else
      some (false, ())
  else
    some (false, ())
def spec_l1Sum_K1 (N : Nat) (n1 : Int) : Option (Int × Unit) :=
  some (n1, ())
def spec_l1Sum_B1 (N : Nat) (kx : ByteArray → Int → Int → Option (Int × Unit)) (s1 : ByteArray) (n : Int) (i : Int) : Option (Int × Unit) :=
  bif ilt i (slen s1) then
    chk (inB i s1.size) <|
    chk (ine 999979 0) <|
    kx s1 (irem (iadd .i64 (iadd .i64 (imul .i64 41 n) (icv .i64 (sbyte s1 i))) 1) 999979) (iadd .i64 i 1)
  else
    spec_l1Sum_K1 N n
def spec_l1Sum_L1 (N fu_ : Nat) (s1 : ByteArray) (n : Int) (i : Int) : Option (Int × Unit) :=
  iterK fu_ (fun kx (v_ : (ByteArray × Int × Int × Unit) × (Unit)) => spec_l1Sum_B1 N (fun s1 n i => kx ((s1, n, i, ()), ())) v_.1.1 v_.1.2.1 v_.1.2.2.1) ((s1, n, i, ()), ())
theorem spec_l1Sum_L1_succ (N fu_ : Nat) (s1 : ByteArray) (n : Int) (i : Int) : spec_l1Sum_L1 N (fu_ + 1) s1 n i = spec_l1Sum_B1 N (fun s1 n i => spec_l1Sum_L1 N fu_ s1 n i) s1 n i := rfl
theorem spec_l1Sum_L1_run (N : Nat) (s1 : Nat → ByteArray) (n : Nat → Int) (i : Nat → Int) (n_ : Nat) {res_ : Option (Int × Unit)} (hstep_ : ∀ j_, j_ < n_ → ∀ kx_, spec_l1Sum_B1 N kx_ (s1 j_) (n j_) (i j_) = kx_ (s1 (j_ + 1)) (n (j_ + 1)) (i (j_ + 1))) (hend_ : ∀ kx_, spec_l1Sum_B1 N kx_ (s1 n_) (n n_) (i n_) = res_) (fu_ : Nat) (hm_ : n_ < fu_) : spec_l1Sum_L1 N fu_ (s1 0) (n 0) (i 0) = res_ := by
  exact loop_run (L := fun fu_ (x_ : ByteArray × Int × Int) => spec_l1Sum_L1 N fu_ x_.1 x_.2.1 x_.2.2) (B := fun kx_ x_ => spec_l1Sum_B1 N (fun s1 n i => kx_ (s1, n, i)) x_.1 x_.2.1 x_.2.2) (fun _ _ => rfl) (fun j_ => (s1 j_, n j_, i j_)) n_ (fun j_ hi_ kx_ => hstep_ j_ hi_ _) (fun kx_ => hend_ _) fu_ hm_
def spec_l1Sum (N : Nat) (s : ByteArray) : Option (Int × Unit) :=
  spec_l1Sum_L1 N N s 7 0
def spec_l1Seal (N : Nat) (s : ByteArray) : Option (ByteArray × Unit) :=
  chk (sfit s (⟨#[35]⟩ : ByteArray)) <|
  (spec_l1Sum N s).bind fun r =>
  (spec_l1Num N r.1).bind fun r1 =>
  chk (sfit (scat s (⟨#[35]⟩ : ByteArray)) r1.1) <|
  some (scat (scat s (⟨#[35]⟩ : ByteArray)) r1.1, ())
def spec_l12Line (N : Nat) (kx : Int) (e : ByteArray × ByteArray) : Option (ByteArray × Unit) :=
  (spec_l1Num N kx).bind fun r =>
  chk (sfit r.1 (⟨#[32]⟩ : ByteArray)) <|
  chk (sfit (scat r.1 (⟨#[32]⟩ : ByteArray)) e.1) <|
  chk (sfit (scat (scat r.1 (⟨#[32]⟩ : ByteArray)) e.1) (⟨#[64]⟩ : ByteArray)) <|
  chk (sfit (scat (scat (scat r.1 (⟨#[32]⟩ : ByteArray)) e.1) (⟨#[64]⟩ : ByteArray)) e.2) <|
  (spec_l1Seal N (scat (scat (scat (scat r.1 (⟨#[32]⟩ : ByteArray)) e.1) (⟨#[64]⟩ : ByteArray)) e.2)).bind fun r1 =>
  chk (sfit r1.1 (⟨#[10]⟩ : ByteArray)) <|
  some (scat r1.1 (⟨#[10]⟩ : ByteArray), ())
def spec_l12Decode (N : Nat) (s : ByteArray) (kx : Int) : Option (((ByteArray × ByteArray) × Bool) × Unit) :=
  (spec_l1Num N kx).bind fun r =>
  chk (sfit r.1 (⟨#[32]⟩ : ByteArray)) <|
  (spec_l1Split N s 35).bind fun r1 =>
  chk (inB 0 r1.1.length) <|
  bif ilt (slen (gd r1.1 0 (⟨#[]⟩ : ByteArray))) (slen (scat r.1 (⟨#[32]⟩ : ByteArray))) then
    some ((((⟨#[]⟩ : ByteArray), (⟨#[]⟩ : ByteArray)), false), ())
  else
    chk (cutB 0 (slen (scat r.1 (⟨#[32]⟩ : ByteArray))) (gd r1.1 0 (⟨#[]⟩ : ByteArray)).size) <|
    bif !(Go.Rx.seq (scut (gd r1.1 0 (⟨#[]⟩ : ByteArray)) 0 (slen (scat r.1 (⟨#[32]⟩ : ByteArray)))) (scat r.1 (⟨#[32]⟩ : ByteArray))) then
      some ((((⟨#[]⟩ : ByteArray), (⟨#[]⟩ : ByteArray)), false), ())
    else
      chk (cutB (slen (scat r.1 (⟨#[32]⟩ : ByteArray))) (slen (gd r1.1 0 (⟨#[]⟩ : ByteArray))) (gd r1.1 0 (⟨#[]⟩ : ByteArray)).size) <|
      (spec_l1Split N (scut (gd r1.1 0 (⟨#[]⟩ : ByteArray)) (slen (scat r.1 (⟨#[32]⟩ : ByteArray))) (slen (gd r1.1 0 (⟨#[]⟩ : ByteArray)))) 64).bind fun r2 =>
      chk (inB 0 r2.1.length) <|
      bif ieq (slen (gd r2.1 0 (⟨#[]⟩ : ByteArray))) (slen (scut (gd r1.1 0 (⟨#[]⟩ : ByteArray)) (slen (scat r.1 (⟨#[32]⟩ : ByteArray))) (slen (gd r1.1 0 (⟨#[]⟩ : ByteArray))))) then
        some ((((⟨#[]⟩ : ByteArray), (⟨#[]⟩ : ByteArray)), false), ())
      else
        chk (cutB (iadd .i64 (slen (gd r2.1 0 (⟨#[]⟩ : ByteArray))) 1) (slen (scut (gd r1.1 0 (⟨#[]⟩ : ByteArray)) (slen (scat r.1 (⟨#[32]⟩ : ByteArray))) (slen (gd r1.1 0 (⟨#[]⟩ : ByteArray))))) (scut (gd r1.1 0 (⟨#[]⟩ : ByteArray)) (slen (scat r.1 (⟨#[32]⟩ : ByteArray))) (slen (gd r1.1 0 (⟨#[]⟩ : ByteArray)))).size) <|
        (spec_l12Record N (gd r2.1 0 (⟨#[]⟩ : ByteArray), scut (scut (gd r1.1 0 (⟨#[]⟩ : ByteArray)) (slen (scat r.1 (⟨#[32]⟩ : ByteArray))) (slen (gd r1.1 0 (⟨#[]⟩ : ByteArray)))) (iadd .i64 (slen (gd r2.1 0 (⟨#[]⟩ : ByteArray))) 1) (slen (scut (gd r1.1 0 (⟨#[]⟩ : ByteArray)) (slen (scat r.1 (⟨#[32]⟩ : ByteArray))) (slen (gd r1.1 0 (⟨#[]⟩ : ByteArray))))))).bind fun r3 =>
        bif r3.1 then
          (spec_l12Line N kx (gd r2.1 0 (⟨#[]⟩ : ByteArray), scut (scut (gd r1.1 0 (⟨#[]⟩ : ByteArray)) (slen (scat r.1 (⟨#[32]⟩ : ByteArray))) (slen (gd r1.1 0 (⟨#[]⟩ : ByteArray)))) (iadd .i64 (slen (gd r2.1 0 (⟨#[]⟩ : ByteArray))) 1) (slen (scut (gd r1.1 0 (⟨#[]⟩ : ByteArray)) (slen (scat r.1 (⟨#[32]⟩ : ByteArray))) (slen (gd r1.1 0 (⟨#[]⟩ : ByteArray))))))).bind fun r4 =>
          chk (sfit s (⟨#[10]⟩ : ByteArray)) <|
          some (((gd r2.1 0 (⟨#[]⟩ : ByteArray), scut (scut (gd r1.1 0 (⟨#[]⟩ : ByteArray)) (slen (scat r.1 (⟨#[32]⟩ : ByteArray))) (slen (gd r1.1 0 (⟨#[]⟩ : ByteArray)))) (iadd .i64 (slen (gd r2.1 0 (⟨#[]⟩ : ByteArray))) 1) (slen (scut (gd r1.1 0 (⟨#[]⟩ : ByteArray)) (slen (scat r.1 (⟨#[32]⟩ : ByteArray))) (slen (gd r1.1 0 (⟨#[]⟩ : ByteArray)))))), Go.Rx.seq r4.1 (scat s (⟨#[10]⟩ : ByteArray))), ())
        else
          some (((gd r2.1 0 (⟨#[]⟩ : ByteArray), scut (scut (gd r1.1 0 (⟨#[]⟩ : ByteArray)) (slen (scat r.1 (⟨#[32]⟩ : ByteArray))) (slen (gd r1.1 0 (⟨#[]⟩ : ByteArray)))) (iadd .i64 (slen (gd r2.1 0 (⟨#[]⟩ : ByteArray))) 1) (slen (scut (gd r1.1 0 (⟨#[]⟩ : ByteArray)) (slen (scat r.1 (⟨#[32]⟩ : ByteArray))) (slen (gd r1.1 0 (⟨#[]⟩ : ByteArray)))))), false), ())
def spec_l12Open_K1 (N : Nat) (atx1 : Int) (out1 : List (ByteArray × ByteArray)) : Option (((List (ByteArray × ByteArray)) × Int) × Unit) :=
  some ((out1, atx1), ())
def spec_l12Open_B1 (N : Nat) (kx : ByteArray → Int → (List (ByteArray × ByteArray)) → Option (((List (ByteArray × ByteArray)) × Int) × Unit)) (s1 : ByteArray) (atx : Int) (out : List (ByteArray × ByteArray)) : Option (((List (ByteArray × ByteArray)) × Int) × Unit) :=
  bif ilt atx (slen s1) then
    bif ilt (len out) 60 then
      chk (cutB atx (slen s1) s1.size) <|
      (spec_l1Split N (scut s1 atx (slen s1)) 10).bind fun r =>
      chk (inB 0 r.1.length) <|
      (spec_l12Decode N (gd r.1 0 (⟨#[]⟩ : ByteArray)) (len out)).bind fun r1 =>
      bif ilt (len r.1) 2 then
        spec_l12Open_K1 N atx out
      else
        bif !r1.1.2 then
          spec_l12Open_K1 N atx out
        else
          chk (fitB (out.length + 1) 32) <|
          chk (inB 0 r.1.length) <|
          kx s1 (iadd .i64 (iadd .i64 atx (slen (gd r.1 0 (⟨#[]⟩ : ByteArray)))) 1) (out ++ [r1.1.1])
    else
      spec_l12Open_K1 N atx out
  else
    spec_l12Open_K1 N atx out
def spec_l12Open_L1 (N fu_ : Nat) (s1 : ByteArray) (atx : Int) (out : List (ByteArray × ByteArray)) : Option (((List (ByteArray × ByteArray)) × Int) × Unit) :=
  iterK fu_ (fun kx (v_ : (ByteArray × Int × Unit) × ((List (ByteArray × ByteArray)) × Unit)) => spec_l12Open_B1 N (fun s1 atx out => kx ((s1, atx, ()), (out, ()))) v_.1.1 v_.1.2.1 v_.2.1) ((s1, atx, ()), (out, ()))
theorem spec_l12Open_L1_succ (N fu_ : Nat) (s1 : ByteArray) (atx : Int) (out : List (ByteArray × ByteArray)) : spec_l12Open_L1 N (fu_ + 1) s1 atx out = spec_l12Open_B1 N (fun s1 atx out => spec_l12Open_L1 N fu_ s1 atx out) s1 atx out := rfl
theorem spec_l12Open_L1_run (N : Nat) (s1 : Nat → ByteArray) (atx : Nat → Int) (out : Nat → (List (ByteArray × ByteArray))) (n_ : Nat) {res_ : Option (((List (ByteArray × ByteArray)) × Int) × Unit)} (hstep_ : ∀ j_, j_ < n_ → ∀ kx_, spec_l12Open_B1 N kx_ (s1 j_) (atx j_) (out j_) = kx_ (s1 (j_ + 1)) (atx (j_ + 1)) (out (j_ + 1))) (hend_ : ∀ kx_, spec_l12Open_B1 N kx_ (s1 n_) (atx n_) (out n_) = res_) (fu_ : Nat) (hm_ : n_ < fu_) : spec_l12Open_L1 N fu_ (s1 0) (atx 0) (out 0) = res_ := by
  exact loop_run (L := fun fu_ (x_ : ByteArray × Int × (List (ByteArray × ByteArray))) => spec_l12Open_L1 N fu_ x_.1 x_.2.1 x_.2.2) (B := fun kx_ x_ => spec_l12Open_B1 N (fun s1 atx out => kx_ (s1, atx, out)) x_.1 x_.2.1 x_.2.2) (fun _ _ => rfl) (fun j_ => (s1 j_, atx j_, out j_)) n_ (fun j_ hi_ kx_ => hstep_ j_ hi_ _) (fun kx_ => hend_ _) fu_ hm_
def spec_l12Open (N : Nat) (s : ByteArray) : Option (((List (ByteArray × ByteArray)) × Int) × Unit) :=
  spec_l12Open_L1 N N s 0 []
def spec_l12Valid (N : Nat) (l : ByteArray × ByteArray × Int) : Option (Bool × Unit) :=
  bif ilt 30000 (iadd .i64 (slen l.1) (slen l.2.1)) then
    some (false, ())
  else
    chk (sfit l.1 l.2.1) <|
    (spec_l12Open N (scat l.1 l.2.1)).bind fun r =>
    (spec_l12Open N l.1).bind fun r1 =>
    bif ieq r.1.2 (iadd .i64 (slen l.1) (slen l.2.1)) then
      bif ieq r1.1.2 (slen l.1) then
        some (ieq (len r.1.1) l.2.2, ())
      else
        some (false, ())
    else
      some (false, ())
def spec_IsValidConsole (N : Nat) (c : (((List Int) × (List Int) × (List Int) × (List Int)) × (List Int) × Int) × ByteArray × ByteArray × Int) : Option (Bool × Unit) :=
  (spec_l12Good N c.1).bind fun r =>
  bif r.1 then
    (spec_l12Valid N c.2).bind fun r1 =>
    some (r1.1, ())
  else
    some (false, ())
def laws_toIntS_K1 (N : Nat) (out1 : List Int) : Option ((List Int) × Unit) :=
  some (out1, ())
def laws_toIntS_B1 (N : Nat) (kx : (List Int) → Int → (List Int) → Option ((List Int) × Unit)) (a1 : List Int) (i : Int) (out : List Int) : Option ((List Int) × Unit) :=
  bif ilt i (len a1) then
    chk (inB i a1.length) <|
    chk (inB i out.length) <|
    kx a1 (iadd .i64 i 1) (List.set out i.toNat (gd a1 i.toNat 0))
  else
    laws_toIntS_K1 N out
def laws_toIntS_L1 (N fu_ : Nat) (a1 : List Int) (i : Int) (out : List Int) : Option ((List Int) × Unit) :=
  iterK fu_ (fun kx (v_ : ((List Int) × Int × Unit) × ((List Int) × Unit)) => laws_toIntS_B1 N (fun a1 i out => kx ((a1, i, ()), (out, ()))) v_.1.1 v_.1.2.1 v_.2.1) ((a1, i, ()), (out, ()))
theorem laws_toIntS_L1_succ (N fu_ : Nat) (a1 : List Int) (i : Int) (out : List Int) : laws_toIntS_L1 N (fu_ + 1) a1 i out = laws_toIntS_B1 N (fun a1 i out => laws_toIntS_L1 N fu_ a1 i out) a1 i out := rfl
theorem laws_toIntS_L1_run (N : Nat) (a1 : Nat → (List Int)) (i : Nat → Int) (out : Nat → (List Int)) (n_ : Nat) {res_ : Option ((List Int) × Unit)} (hstep_ : ∀ j_, j_ < n_ → ∀ kx_, laws_toIntS_B1 N kx_ (a1 j_) (i j_) (out j_) = kx_ (a1 (j_ + 1)) (i (j_ + 1)) (out (j_ + 1))) (hend_ : ∀ kx_, laws_toIntS_B1 N kx_ (a1 n_) (i n_) (out n_) = res_) (fu_ : Nat) (hm_ : n_ < fu_) : laws_toIntS_L1 N fu_ (a1 0) (i 0) (out 0) = res_ := by
  exact loop_run (L := fun fu_ (x_ : (List Int) × Int × (List Int)) => laws_toIntS_L1 N fu_ x_.1 x_.2.1 x_.2.2) (B := fun kx_ x_ => laws_toIntS_B1 N (fun a1 i out => kx_ (a1, i, out)) x_.1 x_.2.1 x_.2.2) (fun _ _ => rfl) (fun j_ => (a1 j_, i j_, out j_)) n_ (fun j_ hi_ kx_ => hstep_ j_ hi_ _) (fun kx_ => hend_ _) fu_ hm_
def laws_toIntS (N : Nat) (a : List Int) : Option ((List Int) × Unit) :=
  chk (mkB (len a) 8) <|
  laws_toIntS_L1 N N a 0 (List.replicate (len a).toNat 0)
def laws_toCase (N : Nat) (a : (List Int) × (List Int) × (List Int) × (List Int)) : Option (((List Int) × (List Int) × (List Int) × (List Int)) × Unit) :=
  (laws_toIntS N a.1).bind fun r =>
  (laws_toIntS N a.2.1).bind fun r1 =>
  (laws_toIntS N a.2.2.1).bind fun r2 =>
  (laws_toIntS N a.2.2.2).bind fun r3 =>
  some ((r.1, (r1.1, (r2.1, r3.1))), ())
def laws_toLedger (N : Nat) (a : ((List Int) × (List Int) × (List Int) × (List Int)) × (List Int) × Int) : Option ((((List Int) × (List Int) × (List Int) × (List Int)) × (List Int) × Int) × Unit) :=
  (laws_toCase N a.1).bind fun r =>
  (laws_toIntS N a.2.1).bind fun r1 =>
  some ((r.1, (r1.1, a.2.2)), ())
def laws_toLog (N : Nat) (a : ByteArray × ByteArray × Int) : Option ((ByteArray × ByteArray × Int) × Unit) :=
  some ((a.1, (a.2.1, a.2.2)), ())
def laws_toConsole (N : Nat) (a : (((List Int) × (List Int) × (List Int) × (List Int)) × (List Int) × Int) × ByteArray × ByteArray × Int) : Option (((((List Int) × (List Int) × (List Int) × (List Int)) × (List Int) × Int) × ByteArray × ByteArray × Int) × Unit) :=
  (laws_toLedger N a.1).bind fun r =>
  (laws_toLog N a.2).bind fun r1 =>
  some ((r.1, r1.1), ())
def impl_within (N : Nat) (n : Int) (low : Int) (high : Int) : Option (Bool × Unit) :=
  bif ile low n then
    some (ile n high, ())
  else
    some (false, ())
def impl_allWithin_K1 (N : Nat) : Option (Bool × Unit) :=
  some (true, ())
def impl_allWithin_B1 (N : Nat) (kx : Int → Int → (List Int) → Int → Int → Option (Bool × Unit)) (low1 : Int) (high1 : Int) (v9 : List Int) (v10 : Int) (v11 : Int) : Option (Bool × Unit) :=
  bif ilt v11 v10 then
    chk (inB v11 v9.length) <|
    (impl_within N (gd v9 v11.toNat 0) low1 high1).bind fun r =>
    bif !r.1 then
      some (false, ())
    else
      kx low1 high1 v9 v10 (iadd .i64 v11 1)
  else
    impl_allWithin_K1 N
def impl_allWithin_L1 (N fu_ : Nat) (low1 : Int) (high1 : Int) (v9 : List Int) (v10 : Int) (v11 : Int) : Option (Bool × Unit) :=
  iterK fu_ (fun kx (v_ : (Int × Int × (List Int) × Int × Int × Unit) × (Unit)) => impl_allWithin_B1 N (fun low1 high1 v9 v10 v11 => kx ((low1, high1, v9, v10, v11, ()), ())) v_.1.1 v_.1.2.1 v_.1.2.2.1 v_.1.2.2.2.1 v_.1.2.2.2.2.1) ((low1, high1, v9, v10, v11, ()), ())
theorem impl_allWithin_L1_succ (N fu_ : Nat) (low1 : Int) (high1 : Int) (v9 : List Int) (v10 : Int) (v11 : Int) : impl_allWithin_L1 N (fu_ + 1) low1 high1 v9 v10 v11 = impl_allWithin_B1 N (fun low1 high1 v9 v10 v11 => impl_allWithin_L1 N fu_ low1 high1 v9 v10 v11) low1 high1 v9 v10 v11 := rfl
theorem impl_allWithin_L1_run (N : Nat) (low1 : Nat → Int) (high1 : Nat → Int) (v9 : Nat → (List Int)) (v10 : Nat → Int) (v11 : Nat → Int) (n_ : Nat) {res_ : Option (Bool × Unit)} (hstep_ : ∀ j_, j_ < n_ → ∀ kx_, impl_allWithin_B1 N kx_ (low1 j_) (high1 j_) (v9 j_) (v10 j_) (v11 j_) = kx_ (low1 (j_ + 1)) (high1 (j_ + 1)) (v9 (j_ + 1)) (v10 (j_ + 1)) (v11 (j_ + 1))) (hend_ : ∀ kx_, impl_allWithin_B1 N kx_ (low1 n_) (high1 n_) (v9 n_) (v10 n_) (v11 n_) = res_) (fu_ : Nat) (hm_ : n_ < fu_) : impl_allWithin_L1 N fu_ (low1 0) (high1 0) (v9 0) (v10 0) (v11 0) = res_ := by
  exact loop_run (L := fun fu_ (x_ : Int × Int × (List Int) × Int × Int) => impl_allWithin_L1 N fu_ x_.1 x_.2.1 x_.2.2.1 x_.2.2.2.1 x_.2.2.2.2) (B := fun kx_ x_ => impl_allWithin_B1 N (fun low1 high1 v9 v10 v11 => kx_ (low1, high1, v9, v10, v11)) x_.1 x_.2.1 x_.2.2.1 x_.2.2.2.1 x_.2.2.2.2) (fun _ _ => rfl) (fun j_ => (low1 j_, high1 j_, v9 j_, v10 j_, v11 j_)) n_ (fun j_ hi_ kx_ => hstep_ j_ hi_ _) (fun kx_ => hend_ _) fu_ hm_
def impl_allWithin (N : Nat) (list : List Int) (low : Int) (high : Int) : Option (Bool × Unit) :=
  impl_allWithin_L1 N N low high list (len list) 0
def impl_IsCase (N : Nat) (c : (List Int) × (List Int) × (List Int) × (List Int)) : Option (Bool × Unit) :=
  bif ile (len c.1) 8 then
    bif ieq (len c.2.1) (len c.1) then
      bif ieq (len c.2.2.1) (len c.1) then
        bif ieq (len c.2.2.2) (len c.1) then
          (impl_allWithin N c.1 0 20).bind fun r =>
          bif r.1 then
            (impl_allWithin N c.2.1 0 99).bind fun r1 =>
            bif r1.1 then
              (impl_allWithin N c.2.2.1 0 9).bind fun r2 =>
              bif r2.1 then
                (impl_allWithin N c.2.2.2 0 9).bind fun r3 =>
                some (r3.1, ())
              else
                some (false, ())
            else
              some (false, ())
          else
            some (false, ())
        else
          some (false, ())
      else
        some (false, ())
    else
      some (false, ())
  else
    some (false, ())
def impl_total_K1 (N : Nat) (sum1 : Int) : Option (Int × Unit) :=
  some (sum1, ())
def impl_total_B1 (N : Nat) (kx : Int → (List Int) → Int → Int → Option (Int × Unit)) (sum : Int) (v6 : List Int) (v7 : Int) (v8 : Int) : Option (Int × Unit) :=
  bif ilt v8 v7 then
    chk (inB v8 v6.length) <|
    kx (iadd .i64 sum (gd v6 v8.toNat 0)) v6 v7 (iadd .i64 v8 1)
  else
    impl_total_K1 N sum
def impl_total_L1 (N fu_ : Nat) (sum : Int) (v6 : List Int) (v7 : Int) (v8 : Int) : Option (Int × Unit) :=
  iterK fu_ (fun kx (v_ : (Int × (List Int) × Int × Int × Unit) × (Unit)) => impl_total_B1 N (fun sum v6 v7 v8 => kx ((sum, v6, v7, v8, ()), ())) v_.1.1 v_.1.2.1 v_.1.2.2.1 v_.1.2.2.2.1) ((sum, v6, v7, v8, ()), ())
theorem impl_total_L1_succ (N fu_ : Nat) (sum : Int) (v6 : List Int) (v7 : Int) (v8 : Int) : impl_total_L1 N (fu_ + 1) sum v6 v7 v8 = impl_total_B1 N (fun sum v6 v7 v8 => impl_total_L1 N fu_ sum v6 v7 v8) sum v6 v7 v8 := rfl
theorem impl_total_L1_run (N : Nat) (sum : Nat → Int) (v6 : Nat → (List Int)) (v7 : Nat → Int) (v8 : Nat → Int) (n_ : Nat) {res_ : Option (Int × Unit)} (hstep_ : ∀ j_, j_ < n_ → ∀ kx_, impl_total_B1 N kx_ (sum j_) (v6 j_) (v7 j_) (v8 j_) = kx_ (sum (j_ + 1)) (v6 (j_ + 1)) (v7 (j_ + 1)) (v8 (j_ + 1))) (hend_ : ∀ kx_, impl_total_B1 N kx_ (sum n_) (v6 n_) (v7 n_) (v8 n_) = res_) (fu_ : Nat) (hm_ : n_ < fu_) : impl_total_L1 N fu_ (sum 0) (v6 0) (v7 0) (v8 0) = res_ := by
  exact loop_run (L := fun fu_ (x_ : Int × (List Int) × Int × Int) => impl_total_L1 N fu_ x_.1 x_.2.1 x_.2.2.1 x_.2.2.2) (B := fun kx_ x_ => impl_total_B1 N (fun sum v6 v7 v8 => kx_ (sum, v6, v7, v8)) x_.1 x_.2.1 x_.2.2.1 x_.2.2.2) (fun _ _ => rfl) (fun j_ => (sum j_, v6 j_, v7 j_, v8 j_)) n_ (fun j_ hi_ kx_ => hstep_ j_ hi_ _) (fun kx_ => hend_ _) fu_ hm_
def impl_total (N : Nat) (list : List Int) : Option (Int × Unit) :=
  impl_total_L1 N N 0 list (len list) 0
def impl_Ledger_stock (N : Nat) (l : ((List Int) × (List Int) × (List Int) × (List Int)) × (List Int) × Int) (n : Int) : Option (Int × Unit) :=
  chk (cutB 0 n l.2.1.length) <|
  (impl_total N (cut l.2.1 0 n)).bind fun r =>
  chk (cutB 0 n l.1.1.length) <|
  (impl_total N (cut l.1.1 0 n)).bind fun r1 =>
  some (isub .i64 r.1 r1.1, ())
def impl_IsLedger_K1 (N : Nat) : Option (Bool × Unit) :=
  some (true, ())
def impl_IsLedger_B1 (N : Nat) (kx : Int → Int → (((List Int) × (List Int) × (List Int) × (List Int)) × (List Int) × Int) → Option (Bool × Unit)) (v34 : Int) (v35 : Int) (l1 : ((List Int) × (List Int) × (List Int) × (List Int)) × (List Int) × Int) : Option (Bool × Unit) :=
  bif ilt v35 v34 then
    (impl_Ledger_stock N l1 (iadd .i64 v35 1)).bind fun r3 =>
    bif ilt r3.1 0 then
      some (false, ())
    else
      kx v34 (iadd .i64 v35 1) l1
  else
    impl_IsLedger_K1 N
def impl_IsLedger_L1 (N fu_ : Nat) (v34 : Int) (v35 : Int) (l1 : ((List Int) × (List Int) × (List Int) × (List Int)) × (List Int) × Int) : Option (Bool × Unit) :=
  iterK fu_ (fun kx (v_ : (Int × Int × Unit) × ((((List Int) × (List Int) × (List Int) × (List Int)) × (List Int) × Int) × Unit)) => impl_IsLedger_B1 N (fun v34 v35 l1 => kx ((v34, v35, ()), (l1, ()))) v_.1.1 v_.1.2.1 v_.2.1) ((v34, v35, ()), (l1, ()))
theorem impl_IsLedger_L1_succ (N fu_ : Nat) (v34 : Int) (v35 : Int) (l1 : ((List Int) × (List Int) × (List Int) × (List Int)) × (List Int) × Int) : impl_IsLedger_L1 N (fu_ + 1) v34 v35 l1 = impl_IsLedger_B1 N (fun v34 v35 l1 => impl_IsLedger_L1 N fu_ v34 v35 l1) v34 v35 l1 := rfl
theorem impl_IsLedger_L1_run (N : Nat) (v34 : Nat → Int) (v35 : Nat → Int) (l1 : Nat → (((List Int) × (List Int) × (List Int) × (List Int)) × (List Int) × Int)) (n_ : Nat) {res_ : Option (Bool × Unit)} (hstep_ : ∀ j_, j_ < n_ → ∀ kx_, impl_IsLedger_B1 N kx_ (v34 j_) (v35 j_) (l1 j_) = kx_ (v34 (j_ + 1)) (v35 (j_ + 1)) (l1 (j_ + 1))) (hend_ : ∀ kx_, impl_IsLedger_B1 N kx_ (v34 n_) (v35 n_) (l1 n_) = res_) (fu_ : Nat) (hm_ : n_ < fu_) : impl_IsLedger_L1 N fu_ (v34 0) (v35 0) (l1 0) = res_ := by
  exact loop_run (L := fun fu_ (x_ : Int × Int × (((List Int) × (List Int) × (List Int) × (List Int)) × (List Int) × Int)) => impl_IsLedger_L1 N fu_ x_.1 x_.2.1 x_.2.2) (B := fun kx_ x_ => impl_IsLedger_B1 N (fun v34 v35 l1 => kx_ (v34, v35, l1)) x_.1 x_.2.1 x_.2.2) (fun _ _ => rfl) (fun j_ => (v34 j_, v35 j_, l1 j_)) n_ (fun j_ hi_ kx_ => hstep_ j_ hi_ _) (fun kx_ => hend_ _) fu_ hm_
def impl_IsLedger (N : Nat) (l : ((List Int) × (List Int) × (List Int) × (List Int)) × (List Int) × Int) : Option (Bool × Unit) :=
  (impl_IsCase N l.1).bind fun r =>
  bif !r.1 then
    some (false, ())
  else
    bif ine (len l.2.1) (len l.1.1) then
      some (false, ())
    else
      (impl_allWithin N l.2.1 0 200).bind fun r1 =>
      bif !r1.1 then
        some (false, ())
      else
        (impl_within N l.2.2 0 (len l.2.1)).bind fun r2 =>
        bif !r2.1 then
          some (false, ())
        else
          impl_IsLedger_L1 N N l.2.2 0 l



def impl_checksum_K1 (N : Nat) (h1 : Int) : Option (Int × Unit) :=
  some (h1, ())
def impl_checksum_B1 (N : Nat) (kx : ByteArray → Int → Int → Int → Option (Int × Unit)) (s1 : ByteArray) (h : Int) (v6 : Int) (v7 : Int) : Option (Int × Unit) :=
  bif ilt v7 v6 then
    chk (inB v7 s1.size) <|
    chk (ine 999979 0) <|
    kx s1 (irem (iadd .i64 (iadd .i64 (imul .i64 41 h) (icv .i64 (sbyte s1 v7))) 1) 999979) v6 (iadd .i64 v7 1)
  else
    impl_checksum_K1 N h
def impl_checksum_L1 (N fu_ : Nat) (s1 : ByteArray) (h : Int) (v6 : Int) (v7 : Int) : Option (Int × Unit) :=
  iterK fu_ (fun kx (v_ : (ByteArray × Int × Int × Int × Unit) × (Unit)) => impl_checksum_B1 N (fun s1 h v6 v7 => kx ((s1, h, v6, v7, ()), ())) v_.1.1 v_.1.2.1 v_.1.2.2.1 v_.1.2.2.2.1) ((s1, h, v6, v7, ()), ())
theorem impl_checksum_L1_succ (N fu_ : Nat) (s1 : ByteArray) (h : Int) (v6 : Int) (v7 : Int) : impl_checksum_L1 N (fu_ + 1) s1 h v6 v7 = impl_checksum_B1 N (fun s1 h v6 v7 => impl_checksum_L1 N fu_ s1 h v6 v7) s1 h v6 v7 := rfl
theorem impl_checksum_L1_run (N : Nat) (s1 : Nat → ByteArray) (h : Nat → Int) (v6 : Nat → Int) (v7 : Nat → Int) (n_ : Nat) {res_ : Option (Int × Unit)} (hstep_ : ∀ j_, j_ < n_ → ∀ kx_, impl_checksum_B1 N kx_ (s1 j_) (h j_) (v6 j_) (v7 j_) = kx_ (s1 (j_ + 1)) (h (j_ + 1)) (v6 (j_ + 1)) (v7 (j_ + 1))) (hend_ : ∀ kx_, impl_checksum_B1 N kx_ (s1 n_) (h n_) (v6 n_) (v7 n_) = res_) (fu_ : Nat) (hm_ : n_ < fu_) : impl_checksum_L1 N fu_ (s1 0) (h 0) (v6 0) (v7 0) = res_ := by
  exact loop_run (L := fun fu_ (x_ : ByteArray × Int × Int × Int) => impl_checksum_L1 N fu_ x_.1 x_.2.1 x_.2.2.1 x_.2.2.2) (B := fun kx_ x_ => impl_checksum_B1 N (fun s1 h v6 v7 => kx_ (s1, h, v6, v7)) x_.1 x_.2.1 x_.2.2.1 x_.2.2.2) (fun _ _ => rfl) (fun j_ => (s1 j_, h j_, v6 j_, v7 j_)) n_ (fun j_ hi_ kx_ => hstep_ j_ hi_ _) (fun kx_ => hend_ _) fu_ hm_
def impl_checksum (N : Nat) (s : ByteArray) : Option (Int × Unit) :=
  impl_checksum_L1 N N s 7 (slen s) 0
def impl_AppendChecksum (N : Nat) (s : ByteArray) : Option ((ByteArray × Bool) × Unit) :=
  bif ilt 4000 (slen s) then
    some (((⟨#[]⟩ : ByteArray), false), ())
  else
    (strings_Contains N s (⟨#[35]⟩ : ByteArray)).bind fun r =>
    bif r.1 then
      some (((⟨#[]⟩ : ByteArray), false), ())
    else
      chk (sfit s (⟨#[35]⟩ : ByteArray)) <|
      (impl_checksum N s).bind fun r1 =>
      (strconv_Itoa N r1.1).bind fun r2 =>
      chk (sfit (scat s (⟨#[35]⟩ : ByteArray)) r2.1) <|
      bif ilt 4000 (slen (scat (scat s (⟨#[35]⟩ : ByteArray)) r2.1)) then
        some (((⟨#[]⟩ : ByteArray), false), ())
      else
        some ((scat (scat s (⟨#[35]⟩ : ByteArray)) r2.1, true), ())
def impl_VerifyChecksum (N : Nat) (s : ByteArray) : Option ((ByteArray × Bool) × Unit) :=
  (strings_Cut N s (⟨#[35]⟩ : ByteArray)).bind fun r =>
  (impl_AppendChecksum N r.1.1).bind fun r1 =>
  bif !r1.1.2 then
    some (((⟨#[]⟩ : ByteArray), false), ())
  else
    bif !(Go.Rx.seq r1.1.1 s) then
      some (((⟨#[]⟩ : ByteArray), false), ())
    else
      some ((r.1.1, true), ())

def impl_isPlain_K1 (N : Nat) (s2 : ByteArray) (most2 : Int) (others2 : ByteArray) : Option (Bool × Unit) :=
  bif ile (slen s2) most2 then
    (strings_ContainsAny N s2 others2).bind fun r =>
    some (!r.1, ())
  else
    some (false, ())
def impl_isPlain_B1 (N : Nat) (kx : ByteArray → Int → ByteArray → Int → Int → Option (Bool × Unit)) (s1 : ByteArray) (most1 : Int) (others1 : ByteArray) (v9 : Int) (v10 : Int) : Option (Bool × Unit) :=
  bif ilt v10 v9 then
    chk (inB v10 s1.size) <|
    bif ilt (sbyte s1 v10) 32 then
      some (false, ())
    else
      chk (inB v10 s1.size) <|
      bif ilt 126 (sbyte s1 v10) then
        some (false, ())
      else
        kx s1 most1 others1 v9 (iadd .i64 v10 1)
  else
    impl_isPlain_K1 N s1 most1 others1
def impl_isPlain_L1 (N fu_ : Nat) (s1 : ByteArray) (most1 : Int) (others1 : ByteArray) (v9 : Int) (v10 : Int) : Option (Bool × Unit) :=
  iterK fu_ (fun kx (v_ : (ByteArray × Int × ByteArray × Int × Int × Unit) × (Unit)) => impl_isPlain_B1 N (fun s1 most1 others1 v9 v10 => kx ((s1, most1, others1, v9, v10, ()), ())) v_.1.1 v_.1.2.1 v_.1.2.2.1 v_.1.2.2.2.1 v_.1.2.2.2.2.1) ((s1, most1, others1, v9, v10, ()), ())
theorem impl_isPlain_L1_succ (N fu_ : Nat) (s1 : ByteArray) (most1 : Int) (others1 : ByteArray) (v9 : Int) (v10 : Int) : impl_isPlain_L1 N (fu_ + 1) s1 most1 others1 v9 v10 = impl_isPlain_B1 N (fun s1 most1 others1 v9 v10 => impl_isPlain_L1 N fu_ s1 most1 others1 v9 v10) s1 most1 others1 v9 v10 := rfl
theorem impl_isPlain_L1_run (N : Nat) (s1 : Nat → ByteArray) (most1 : Nat → Int) (others1 : Nat → ByteArray) (v9 : Nat → Int) (v10 : Nat → Int) (n_ : Nat) {res_ : Option (Bool × Unit)} (hstep_ : ∀ j_, j_ < n_ → ∀ kx_, impl_isPlain_B1 N kx_ (s1 j_) (most1 j_) (others1 j_) (v9 j_) (v10 j_) = kx_ (s1 (j_ + 1)) (most1 (j_ + 1)) (others1 (j_ + 1)) (v9 (j_ + 1)) (v10 (j_ + 1))) (hend_ : ∀ kx_, impl_isPlain_B1 N kx_ (s1 n_) (most1 n_) (others1 n_) (v9 n_) (v10 n_) = res_) (fu_ : Nat) (hm_ : n_ < fu_) : impl_isPlain_L1 N fu_ (s1 0) (most1 0) (others1 0) (v9 0) (v10 0) = res_ := by
  exact loop_run (L := fun fu_ (x_ : ByteArray × Int × ByteArray × Int × Int) => impl_isPlain_L1 N fu_ x_.1 x_.2.1 x_.2.2.1 x_.2.2.2.1 x_.2.2.2.2) (B := fun kx_ x_ => impl_isPlain_B1 N (fun s1 most1 others1 v9 v10 => kx_ (s1, most1, others1, v9, v10)) x_.1 x_.2.1 x_.2.2.1 x_.2.2.2.1 x_.2.2.2.2) (fun _ _ => rfl) (fun j_ => (s1 j_, most1 j_, others1 j_, v9 j_, v10 j_)) n_ (fun j_ hi_ kx_ => hstep_ j_ hi_ _) (fun kx_ => hend_ _) fu_ hm_
def impl_isPlain (N : Nat) (s : ByteArray) (most : Int) (others : ByteArray) : Option (Bool × Unit) :=
  impl_isPlain_L1 N N s most others (slen s) 0
def impl_isCommand (N : Nat) (s : ByteArray) : Option (Bool × Unit) :=
  bif !(Go.Rx.seq s (⟨#[]⟩ : ByteArray)) then
    (impl_isPlain N s 160 (⟨#[35, 64]⟩ : ByteArray)).bind fun r =>
    some (r.1, ())
  else
    some (false, ())
def impl_IsValidRecord (N : Nat) (e : ByteArray × ByteArray) : Option (Bool × Unit) :=
  (impl_isCommand N e.1).bind fun r =>
  bif r.1 then
    (impl_isPlain N e.2 200 (⟨#[35]⟩ : ByteArray)).bind fun r1 =>
    some (r1.1, ())
  else
    some (false, ())
def impl_EncodeRecord (N : Nat) (kx : Int) (e : ByteArray × ByteArray) : Option ((ByteArray × Bool) × Unit) :=
  (impl_within N kx 0 59).bind fun r =>
  bif !r.1 then
    some (((⟨#[]⟩ : ByteArray), false), ())
  else
    (impl_IsValidRecord N e).bind fun r1 =>
    bif !r1.1 then
      some (((⟨#[]⟩ : ByteArray), false), ())
    else
      (strconv_Itoa N kx).bind fun r2 =>
      chk (sfit r2.1 (⟨#[32]⟩ : ByteArray)) <|
      chk (sfit (scat r2.1 (⟨#[32]⟩ : ByteArray)) e.1) <|
      chk (sfit (scat (scat r2.1 (⟨#[32]⟩ : ByteArray)) e.1) (⟨#[64]⟩ : ByteArray)) <|
      chk (sfit (scat (scat (scat r2.1 (⟨#[32]⟩ : ByteArray)) e.1) (⟨#[64]⟩ : ByteArray)) e.2) <|
      (impl_AppendChecksum N (scat (scat (scat (scat r2.1 (⟨#[32]⟩ : ByteArray)) e.1) (⟨#[64]⟩ : ByteArray)) e.2)).bind fun r3 =>
      chk (sfit r3.1.1 (⟨#[10]⟩ : ByteArray)) <|
      some ((scat r3.1.1 (⟨#[10]⟩ : ByteArray), true), ())
def impl_readRecords_K1 (N : Nat) (v41 : List (ByteArray × ByteArray)) (v51 : List Int) : Option (((List (ByteArray × ByteArray)) × (List Int)) × Unit) :=
  some ((v41, v51), ())
def impl_readRecords_B1 (N : Nat) (kx : ByteArray → Int → (List (ByteArray × ByteArray)) → (List Int) → Option (((List (ByteArray × ByteArray)) × (List Int)) × Unit)) (app1 : ByteArray) (v6 : Int) (v4 : List (ByteArray × ByteArray)) (v5 : List Int) : Option (((List (ByteArray × ByteArray)) × (List Int)) × Unit) :=
  bif ilt (len v4) 60 then
    chk (cutB v6 (slen app1) app1.size) <|
    (strings_Cut N (scut app1 v6 (slen app1)) (⟨#[10]⟩ : ByteArray)).bind fun r =>
    bif !r.1.2.2 then
      impl_readRecords_K1 N v4 v5
    else
      (impl_VerifyChecksum N r.1.1).bind fun r1 =>
      (strings_Cut N r1.1.1 (⟨#[32]⟩ : ByteArray)).bind fun r2 =>
      (strings_Cut N r2.1.2.1 (⟨#[64]⟩ : ByteArray)).bind fun r3 =>
      (impl_EncodeRecord N (len v4) (r3.1.1, r3.1.2.1)).bind fun r4 =>
      bif !r4.1.2 then
        impl_readRecords_K1 N v4 v5
      else
        chk (sfit r.1.1 (⟨#[10]⟩ : ByteArray)) <|
        bif !(Go.Rx.seq r4.1.1 (scat r.1.1 (⟨#[10]⟩ : ByteArray))) then
          impl_readRecords_K1 N v4 v5
        else
          chk (fitB (v4.length + 1) 32) <|
          chk (fitB (v5.length + 1) 8) <|
          kx app1 (iadd .i64 v6 (iadd .i64 (slen r.1.1) 1)) (v4 ++ [(r3.1.1, r3.1.2.1)]) (v5 ++ [iadd .i64 v6 (iadd .i64 (slen r.1.1) 1)])
  else
    impl_readRecords_K1 N v4 v5
def impl_readRecords_L1 (N fu_ : Nat) (app1 : ByteArray) (v6 : Int) (v4 : List (ByteArray × ByteArray)) (v5 : List Int) : Option (((List (ByteArray × ByteArray)) × (List Int)) × Unit) :=
  iterK fu_ (fun kx (v_ : (ByteArray × Int × Unit) × ((List (ByteArray × ByteArray)) × (List Int) × Unit)) => impl_readRecords_B1 N (fun app1 v6 v4 v5 => kx ((app1, v6, ()), (v4, v5, ()))) v_.1.1 v_.1.2.1 v_.2.1 v_.2.2.1) ((app1, v6, ()), (v4, v5, ()))
theorem impl_readRecords_L1_succ (N fu_ : Nat) (app1 : ByteArray) (v6 : Int) (v4 : List (ByteArray × ByteArray)) (v5 : List Int) : impl_readRecords_L1 N (fu_ + 1) app1 v6 v4 v5 = impl_readRecords_B1 N (fun app1 v6 v4 v5 => impl_readRecords_L1 N fu_ app1 v6 v4 v5) app1 v6 v4 v5 := rfl
theorem impl_readRecords_L1_run (N : Nat) (app1 : Nat → ByteArray) (v6 : Nat → Int) (v4 : Nat → (List (ByteArray × ByteArray))) (v5 : Nat → (List Int)) (n_ : Nat) {res_ : Option (((List (ByteArray × ByteArray)) × (List Int)) × Unit)} (hstep_ : ∀ j_, j_ < n_ → ∀ kx_, impl_readRecords_B1 N kx_ (app1 j_) (v6 j_) (v4 j_) (v5 j_) = kx_ (app1 (j_ + 1)) (v6 (j_ + 1)) (v4 (j_ + 1)) (v5 (j_ + 1))) (hend_ : ∀ kx_, impl_readRecords_B1 N kx_ (app1 n_) (v6 n_) (v4 n_) (v5 n_) = res_) (fu_ : Nat) (hm_ : n_ < fu_) : impl_readRecords_L1 N fu_ (app1 0) (v6 0) (v4 0) (v5 0) = res_ := by
  exact loop_run (L := fun fu_ (x_ : ByteArray × Int × (List (ByteArray × ByteArray)) × (List Int)) => impl_readRecords_L1 N fu_ x_.1 x_.2.1 x_.2.2.1 x_.2.2.2) (B := fun kx_ x_ => impl_readRecords_B1 N (fun app1 v6 v4 v5 => kx_ (app1, v6, v4, v5)) x_.1 x_.2.1 x_.2.2.1 x_.2.2.2) (fun _ _ => rfl) (fun j_ => (app1 j_, v6 j_, v4 j_, v5 j_)) n_ (fun j_ hi_ kx_ => hstep_ j_ hi_ _) (fun kx_ => hend_ _) fu_ hm_
def impl_readRecords (N : Nat) (app : ByteArray) : Option (((List (ByteArray × ByteArray)) × (List Int)) × Unit) :=
  impl_readRecords_L1 N N app 0 [] [0]
def slices_Index_int_int_K1 (N : Nat) : Option (Int × Unit) :=
  some ((-1), ())
def slices_Index_int_int_B1 (N : Nat) (kx : (List Int) → Int → Int → Int → Option (Int × Unit)) (s1 : List Int) (v1 : Int) (v7 : Int) (v8 : Int) : Option (Int × Unit) :=
  bif ilt v8 v7 then
    chk (inB v8 s1.length) <|
    bif ieq v1 (gd s1 v8.toNat 0) then
      some (v8, ())
    else
      kx s1 v1 v7 (iadd .i64 v8 1)
  else
    slices_Index_int_int_K1 N
def slices_Index_int_int_L1 (N fu_ : Nat) (s1 : List Int) (v1 : Int) (v7 : Int) (v8 : Int) : Option (Int × Unit) :=
  iterK fu_ (fun kx (v_ : ((List Int) × Int × Int × Int × Unit) × (Unit)) => slices_Index_int_int_B1 N (fun s1 v1 v7 v8 => kx ((s1, v1, v7, v8, ()), ())) v_.1.1 v_.1.2.1 v_.1.2.2.1 v_.1.2.2.2.1) ((s1, v1, v7, v8, ()), ())
theorem slices_Index_int_int_L1_succ (N fu_ : Nat) (s1 : List Int) (v1 : Int) (v7 : Int) (v8 : Int) : slices_Index_int_int_L1 N (fu_ + 1) s1 v1 v7 v8 = slices_Index_int_int_B1 N (fun s1 v1 v7 v8 => slices_Index_int_int_L1 N fu_ s1 v1 v7 v8) s1 v1 v7 v8 := rfl
theorem slices_Index_int_int_L1_run (N : Nat) (s1 : Nat → (List Int)) (v1 : Nat → Int) (v7 : Nat → Int) (v8 : Nat → Int) (n_ : Nat) {res_ : Option (Int × Unit)} (hstep_ : ∀ j_, j_ < n_ → ∀ kx_, slices_Index_int_int_B1 N kx_ (s1 j_) (v1 j_) (v7 j_) (v8 j_) = kx_ (s1 (j_ + 1)) (v1 (j_ + 1)) (v7 (j_ + 1)) (v8 (j_ + 1))) (hend_ : ∀ kx_, slices_Index_int_int_B1 N kx_ (s1 n_) (v1 n_) (v7 n_) (v8 n_) = res_) (fu_ : Nat) (hm_ : n_ < fu_) : slices_Index_int_int_L1 N fu_ (s1 0) (v1 0) (v7 0) (v8 0) = res_ := by
  exact loop_run (L := fun fu_ (x_ : (List Int) × Int × Int × Int) => slices_Index_int_int_L1 N fu_ x_.1 x_.2.1 x_.2.2.1 x_.2.2.2) (B := fun kx_ x_ => slices_Index_int_int_B1 N (fun s1 v1 v7 v8 => kx_ (s1, v1, v7, v8)) x_.1 x_.2.1 x_.2.2.1 x_.2.2.2) (fun _ _ => rfl) (fun j_ => (s1 j_, v1 j_, v7 j_, v8 j_)) n_ (fun j_ hi_ kx_ => hstep_ j_ hi_ _) (fun kx_ => hend_ _) fu_ hm_
def slices_Index_int_int (N : Nat) (s : List Int) (v : Int) : Option (Int × Unit) :=
  slices_Index_int_int_L1 N N s v (len s) 0
def slices_Contains_int_int (N : Nat) (s : List Int) (v : Int) : Option (Bool × Unit) :=
  (slices_Index_int_int N s v).bind fun r =>
  some (ile 0 r.1, ())
def impl_IsValidLog (N : Nat) (l : ByteArray × ByteArray × Int) : Option (Bool × Unit) :=
  bif ilt 30000 (iadd .i64 (slen l.1) (slen l.2.1)) then
    some (false, ())
  else
    chk (sfit l.1 l.2.1) <|
    (impl_readRecords N (scat l.1 l.2.1)).bind fun r =>
    chk (inB (len r.1.1) r.1.2.length) <|
    bif ieq (gd r.1.2 (len r.1.1).toNat 0) (iadd .i64 (slen l.1) (slen l.2.1)) then
      bif ieq l.2.2 (len r.1.1) then
        (slices_Contains_int_int N r.1.2 (slen l.1)).bind fun r1 =>
        some (r1.1, ())
      else
        some (false, ())
    else
      some (false, ())
def impl_IsValidConsole (N : Nat) (c : (((List Int) × (List Int) × (List Int) × (List Int)) × (List Int) × Int) × ByteArray × ByteArray × Int) : Option (Bool × Unit) :=
  (impl_IsLedger N c.1).bind fun r =>
  bif r.1 then
    (impl_IsValidLog N c.2).bind fun r1 =>
    some (r1.1, ())
  else
    some (false, ())
def laws_eqIntS_K1 (N : Nat) : Option (Bool × Unit) :=
  some (true, ())
def laws_eqIntS_B1 (N : Nat) (kx : (List Int) → (List Int) → Int → Option (Bool × Unit)) (a1 : List Int) (b1 : List Int) (i : Int) : Option (Bool × Unit) :=
  bif ilt i (len a1) then
    chk (inB i a1.length) <|
    chk (inB i b1.length) <|
    bif ine (gd a1 i.toNat 0) (gd b1 i.toNat 0) then
      some (false, ())
    else
      kx a1 b1 (iadd .i64 i 1)
  else
    laws_eqIntS_K1 N
def laws_eqIntS_L1 (N fu_ : Nat) (a1 : List Int) (b1 : List Int) (i : Int) : Option (Bool × Unit) :=
  iterK fu_ (fun kx (v_ : ((List Int) × (List Int) × Int × Unit) × (Unit)) => laws_eqIntS_B1 N (fun a1 b1 i => kx ((a1, b1, i, ()), ())) v_.1.1 v_.1.2.1 v_.1.2.2.1) ((a1, b1, i, ()), ())
theorem laws_eqIntS_L1_succ (N fu_ : Nat) (a1 : List Int) (b1 : List Int) (i : Int) : laws_eqIntS_L1 N (fu_ + 1) a1 b1 i = laws_eqIntS_B1 N (fun a1 b1 i => laws_eqIntS_L1 N fu_ a1 b1 i) a1 b1 i := rfl
theorem laws_eqIntS_L1_run (N : Nat) (a1 : Nat → (List Int)) (b1 : Nat → (List Int)) (i : Nat → Int) (n_ : Nat) {res_ : Option (Bool × Unit)} (hstep_ : ∀ j_, j_ < n_ → ∀ kx_, laws_eqIntS_B1 N kx_ (a1 j_) (b1 j_) (i j_) = kx_ (a1 (j_ + 1)) (b1 (j_ + 1)) (i (j_ + 1))) (hend_ : ∀ kx_, laws_eqIntS_B1 N kx_ (a1 n_) (b1 n_) (i n_) = res_) (fu_ : Nat) (hm_ : n_ < fu_) : laws_eqIntS_L1 N fu_ (a1 0) (b1 0) (i 0) = res_ := by
  exact loop_run (L := fun fu_ (x_ : (List Int) × (List Int) × Int) => laws_eqIntS_L1 N fu_ x_.1 x_.2.1 x_.2.2) (B := fun kx_ x_ => laws_eqIntS_B1 N (fun a1 b1 i => kx_ (a1, b1, i)) x_.1 x_.2.1 x_.2.2) (fun _ _ => rfl) (fun j_ => (a1 j_, b1 j_, i j_)) n_ (fun j_ hi_ kx_ => hstep_ j_ hi_ _) (fun kx_ => hend_ _) fu_ hm_
def laws_eqIntS (N : Nat) (a : List Int) (b : List Int) : Option (Bool × Unit) :=
  bif ine (len a) (len b) then
    some (false, ())
  else
    laws_eqIntS_L1 N N a b 0
def laws_eqCase (N : Nat) (a : (List Int) × (List Int) × (List Int) × (List Int)) (b : (List Int) × (List Int) × (List Int) × (List Int)) : Option (Bool × Unit) :=
  (laws_eqIntS N a.1 b.1).bind fun r =>
  bif !r.1 then
    some (false, ())
  else
    (laws_eqIntS N a.2.1 b.2.1).bind fun r1 =>
    bif !r1.1 then
      some (false, ())
    else
      (laws_eqIntS N a.2.2.1 b.2.2.1).bind fun r2 =>
      bif !r2.1 then
        some (false, ())
      else
        (laws_eqIntS N a.2.2.2 b.2.2.2).bind fun r3 =>
        bif !r3.1 then
          some (false, ())
        else
          some (true, ())
def laws_eqLedger (N : Nat) (a : ((List Int) × (List Int) × (List Int) × (List Int)) × (List Int) × Int) (b : ((List Int) × (List Int) × (List Int) × (List Int)) × (List Int) × Int) : Option (Bool × Unit) :=
  (laws_eqCase N a.1 b.1).bind fun r =>
  bif !r.1 then
    some (false, ())
  else
    (laws_eqIntS N a.2.1 b.2.1).bind fun r1 =>
    bif !r1.1 then
      some (false, ())
    else
      bif ine a.2.2 b.2.2 then
        some (false, ())
      else
        some (true, ())
def laws_eqLog (N : Nat) (a : ByteArray × ByteArray × Int) (b : ByteArray × ByteArray × Int) : Option (Bool × Unit) :=
  bif !(Go.Rx.seq a.1 b.1) then
    some (false, ())
  else
    bif !(Go.Rx.seq a.2.1 b.2.1) then
      some (false, ())
    else
      bif ine a.2.2 b.2.2 then
        some (false, ())
      else
        some (true, ())
def laws_eqConsole (N : Nat) (a : (((List Int) × (List Int) × (List Int) × (List Int)) × (List Int) × Int) × ByteArray × ByteArray × Int) (b : (((List Int) × (List Int) × (List Int) × (List Int)) × (List Int) × Int) × ByteArray × ByteArray × Int) : Option (Bool × Unit) :=
  (laws_eqLedger N a.1 b.1).bind fun r =>
  bif !r.1 then
    some (false, ())
  else
    (laws_eqLog N a.2 b.2).bind fun r1 =>
    bif !r1.1 then
      some (false, ())
    else
      some (true, ())
def laws_FnExactIsValidConsole (N : Nat) (aC : (((List Int) × (List Int) × (List Int) × (List Int)) × (List Int) × Int) × ByteArray × ByteArray × Int) : Option (Bool × Unit) :=
  (laws_szConsole N aC 1048576).bind fun r =>
  bif ilt r.1 0 then
    some (true, ())
  else
    (laws_toConsole N aC).bind fun r1 =>
    (spec_IsValidConsole N r1.1).bind fun r2 =>
    (laws_toConsole N aC).bind fun r3 =>
    (impl_IsValidConsole N r3.1).bind fun r4 =>
    bif !(Go.Rx.beq r4.1 r2.1) then
      some (false, ())
    else
      (laws_toConsole N aC).bind fun r5 =>
      (laws_eqConsole N r3.1 r5.1).bind fun r6 =>
      bif !r6.1 then
        some (false, ())
      else
        some (true, ())
end Px
end Go.Rx
