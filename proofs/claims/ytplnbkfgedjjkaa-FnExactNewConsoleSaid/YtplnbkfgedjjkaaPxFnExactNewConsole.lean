/- This text defines the plain functions that the Go functions behind FnExactNewConsole compute; no condition. -/
import Derived.Test.YtplnbkfgedjjkaaRxc
set_option linter.unusedVariables false
set_option linter.unusedSimpArgs false
namespace Go.Rx
namespace Px
def laws_szIntS (N : Nat) (a : List Int) (left : Int) : Option (Int × Unit) :=
  bif ilt (isub .i64 left (len a)) 0 then
    some ((-1), ())
  else
    some (isub .i64 left (len a), ())
def laws_szCase (N : Nat) (a : (List Int) × (List Int) × (List Int) × (List Int)) (left : Int) : Option (Int × Unit) :=
  (laws_szIntS N a.1 left).bind fun r =>
  bif ilt r.1 0 then
    some ((-1), ())
  else
    (laws_szIntS N a.2.1 r.1).bind fun r1 =>
    bif ilt r1.1 0 then
      some ((-1), ())
    else
      (laws_szIntS N a.2.2.1 r1.1).bind fun r2 =>
      bif ilt r2.1 0 then
        some ((-1), ())
      else
        (laws_szIntS N a.2.2.2 r2.1).bind fun r3 =>
        bif ilt r3.1 0 then
          some ((-1), ())
        else
          some (r3.1, ())
def laws_szLedger (N : Nat) (a : ((List Int) × (List Int) × (List Int) × (List Int)) × (List Int) × Int) (left : Int) : Option (Int × Unit) :=
  (laws_szCase N a.1 left).bind fun r =>
  bif ilt r.1 0 then
    some ((-1), ())
  else
    (laws_szIntS N a.2.1 r.1).bind fun r1 =>
    bif ilt r1.1 0 then
      some ((-1), ())
    else
      some (r1.1, ())
def spec_l1In (N : Nat) (x : Int) (a : Int) (b : Int) : Option (Bool × Unit) :=
  bif ile a x then
    some (ile x b, ())
  else
    some (false, ())
def spec_l2Row_K1 (N : Nat) (row2 : List Int) (n2 : Int) : Option (Bool × Unit) :=
  some (ieq (len row2) n2, ())
def spec_l2Row_B1 (N : Nat) (kx : (List Int) → Int → Int → Int → Option (Bool × Unit)) (row1 : List Int) (n1 : Int) (most1 : Int) (i : Int) : Option (Bool × Unit) :=
  bif ilt i (len row1) then
    chk (inB i row1.length) <|
    (spec_l1In N (gd row1 i.toNat 0) 0 most1).bind fun r =>
    bif !r.1 then
      some (false, ())
    else
      kx row1 n1 most1 (iadd .i64 i 1)
  else
    spec_l2Row_K1 N row1 n1
def spec_l2Row_L1 (N fu_ : Nat) (row1 : List Int) (n1 : Int) (most1 : Int) (i : Int) : Option (Bool × Unit) :=
  iterK fu_ (fun kx (v_ : ((List Int) × Int × Int × Int × Unit) × (Unit)) => spec_l2Row_B1 N (fun row1 n1 most1 i => kx ((row1, n1, most1, i, ()), ())) v_.1.1 v_.1.2.1 v_.1.2.2.1 v_.1.2.2.2.1) ((row1, n1, most1, i, ()), ())
theorem spec_l2Row_L1_succ (N fu_ : Nat) (row1 : List Int) (n1 : Int) (most1 : Int) (i : Int) : spec_l2Row_L1 N (fu_ + 1) row1 n1 most1 i = spec_l2Row_B1 N (fun row1 n1 most1 i => spec_l2Row_L1 N fu_ row1 n1 most1 i) row1 n1 most1 i := rfl
theorem spec_l2Row_L1_run (N : Nat) (row1 : Nat → (List Int)) (n1 : Nat → Int) (most1 : Nat → Int) (i : Nat → Int) (n_ : Nat) {res_ : Option (Bool × Unit)} (hstep_ : ∀ j_, j_ < n_ → ∀ kx_, spec_l2Row_B1 N kx_ (row1 j_) (n1 j_) (most1 j_) (i j_) = kx_ (row1 (j_ + 1)) (n1 (j_ + 1)) (most1 (j_ + 1)) (i (j_ + 1))) (hend_ : ∀ kx_, spec_l2Row_B1 N kx_ (row1 n_) (n1 n_) (most1 n_) (i n_) = res_) (fu_ : Nat) (hm_ : n_ < fu_) : spec_l2Row_L1 N fu_ (row1 0) (n1 0) (most1 0) (i 0) = res_ := by
  exact loop_run (L := fun fu_ (x_ : (List Int) × Int × Int × Int) => spec_l2Row_L1 N fu_ x_.1 x_.2.1 x_.2.2.1 x_.2.2.2) (B := fun kx_ x_ => spec_l2Row_B1 N (fun row1 n1 most1 i => kx_ (row1, n1, most1, i)) x_.1 x_.2.1 x_.2.2.1 x_.2.2.2) (fun _ _ => rfl) (fun j_ => (row1 j_, n1 j_, most1 j_, i j_)) n_ (fun j_ hi_ kx_ => hstep_ j_ hi_ _) (fun kx_ => hend_ _) fu_ hm_
def spec_l2Row (N : Nat) (row : List Int) (n : Int) (most : Int) : Option (Bool × Unit) :=
  spec_l2Row_L1 N N row n most 0
def spec_l2Good (N : Nat) (c : (List Int) × (List Int) × (List Int) × (List Int)) : Option (Bool × Unit) :=
  bif ile (len c.1) 8 then
    (spec_l2Row N c.1 (len c.1) 20).bind fun r =>
    bif r.1 then
      (spec_l2Row N c.2.1 (len c.1) 99).bind fun r1 =>
      bif r1.1 then
        (spec_l2Row N c.2.2.1 (len c.1) 9).bind fun r2 =>
        bif r2.1 then
          (spec_l2Row N c.2.2.2 (len c.1) 9).bind fun r3 =>
          some (r3.1, ())
        else
          some (false, ())
      else
        some (false, ())
    else
      some (false, ())
  else
    some (false, ())
def spec_l12Stock_K1 (N : Nat) (sum1 : Int) : Option (Int × Unit) :=
  some (sum1, ())
def spec_l12Stock_B1 (N : Nat) (kx : Int → Int → Int → (((List Int) × (List Int) × (List Int) × (List Int)) × (List Int) × Int) → Option (Int × Unit)) (many1 : Int) (sum : Int) (t : Int) (l1 : ((List Int) × (List Int) × (List Int) × (List Int)) × (List Int) × Int) : Option (Int × Unit) :=
  bif ilt t many1 then
    chk (inB t l1.2.1.length) <|
    chk (inB t l1.1.1.length) <|
    kx many1 (isub .i64 (iadd .i64 sum (gd l1.2.1 t.toNat 0)) (gd l1.1.1 t.toNat 0)) (iadd .i64 t 1) l1
  else
    spec_l12Stock_K1 N sum
def spec_l12Stock_L1 (N fu_ : Nat) (many1 : Int) (sum : Int) (t : Int) (l1 : ((List Int) × (List Int) × (List Int) × (List Int)) × (List Int) × Int) : Option (Int × Unit) :=
  iterK fu_ (fun kx (v_ : (Int × Int × Int × Unit) × ((((List Int) × (List Int) × (List Int) × (List Int)) × (List Int) × Int) × Unit)) => spec_l12Stock_B1 N (fun many1 sum t l1 => kx ((many1, sum, t, ()), (l1, ()))) v_.1.1 v_.1.2.1 v_.1.2.2.1 v_.2.1) ((many1, sum, t, ()), (l1, ()))
theorem spec_l12Stock_L1_succ (N fu_ : Nat) (many1 : Int) (sum : Int) (t : Int) (l1 : ((List Int) × (List Int) × (List Int) × (List Int)) × (List Int) × Int) : spec_l12Stock_L1 N (fu_ + 1) many1 sum t l1 = spec_l12Stock_B1 N (fun many1 sum t l1 => spec_l12Stock_L1 N fu_ many1 sum t l1) many1 sum t l1 := rfl
theorem spec_l12Stock_L1_run (N : Nat) (many1 : Nat → Int) (sum : Nat → Int) (t : Nat → Int) (l1 : Nat → (((List Int) × (List Int) × (List Int) × (List Int)) × (List Int) × Int)) (n_ : Nat) {res_ : Option (Int × Unit)} (hstep_ : ∀ j_, j_ < n_ → ∀ kx_, spec_l12Stock_B1 N kx_ (many1 j_) (sum j_) (t j_) (l1 j_) = kx_ (many1 (j_ + 1)) (sum (j_ + 1)) (t (j_ + 1)) (l1 (j_ + 1))) (hend_ : ∀ kx_, spec_l12Stock_B1 N kx_ (many1 n_) (sum n_) (t n_) (l1 n_) = res_) (fu_ : Nat) (hm_ : n_ < fu_) : spec_l12Stock_L1 N fu_ (many1 0) (sum 0) (t 0) (l1 0) = res_ := by
  exact loop_run (L := fun fu_ (x_ : Int × Int × Int × (((List Int) × (List Int) × (List Int) × (List Int)) × (List Int) × Int)) => spec_l12Stock_L1 N fu_ x_.1 x_.2.1 x_.2.2.1 x_.2.2.2) (B := fun kx_ x_ => spec_l12Stock_B1 N (fun many1 sum t l1 => kx_ (many1, sum, t, l1)) x_.1 x_.2.1 x_.2.2.1 x_.2.2.2) (fun _ _ => rfl) (fun j_ => (many1 j_, sum j_, t j_, l1 j_)) n_ (fun j_ hi_ kx_ => hstep_ j_ hi_ _) (fun kx_ => hend_ _) fu_ hm_
def spec_l12Stock (N : Nat) (l : ((List Int) × (List Int) × (List Int) × (List Int)) × (List Int) × Int) (many : Int) : Option (Int × Unit) :=
  spec_l12Stock_L1 N N many 0 0 l
def spec_l12Good_K1 (N : Nat) : Option (Bool × Unit) :=
  some (true, ())
def spec_l12Good_B1 (N : Nat) (kx : Int → (((List Int) × (List Int) × (List Int) × (List Int)) × (List Int) × Int) → Option (Bool × Unit)) (t : Int) (l1 : ((List Int) × (List Int) × (List Int) × (List Int)) × (List Int) × Int) : Option (Bool × Unit) :=
  bif ile t l1.2.2 then
    (spec_l12Stock N l1 t).bind fun r3 =>
    bif ilt r3.1 0 then
      some (false, ())
    else
      kx (iadd .i64 t 1) l1
  else
    spec_l12Good_K1 N
def spec_l12Good_L1 (N fu_ : Nat) (t : Int) (l1 : ((List Int) × (List Int) × (List Int) × (List Int)) × (List Int) × Int) : Option (Bool × Unit) :=
  iterK fu_ (fun kx (v_ : (Int × Unit) × ((((List Int) × (List Int) × (List Int) × (List Int)) × (List Int) × Int) × Unit)) => spec_l12Good_B1 N (fun t l1 => kx ((t, ()), (l1, ()))) v_.1.1 v_.2.1) ((t, ()), (l1, ()))
theorem spec_l12Good_L1_succ (N fu_ : Nat) (t : Int) (l1 : ((List Int) × (List Int) × (List Int) × (List Int)) × (List Int) × Int) : spec_l12Good_L1 N (fu_ + 1) t l1 = spec_l12Good_B1 N (fun t l1 => spec_l12Good_L1 N fu_ t l1) t l1 := rfl
theorem spec_l12Good_L1_run (N : Nat) (t : Nat → Int) (l1 : Nat → (((List Int) × (List Int) × (List Int) × (List Int)) × (List Int) × Int)) (n_ : Nat) {res_ : Option (Bool × Unit)} (hstep_ : ∀ j_, j_ < n_ → ∀ kx_, spec_l12Good_B1 N kx_ (t j_) (l1 j_) = kx_ (t (j_ + 1)) (l1 (j_ + 1))) (hend_ : ∀ kx_, spec_l12Good_B1 N kx_ (t n_) (l1 n_) = res_) (fu_ : Nat) (hm_ : n_ < fu_) : spec_l12Good_L1 N fu_ (t 0) (l1 0) = res_ := by
  exact loop_run (L := fun fu_ (x_ : Int × (((List Int) × (List Int) × (List Int) × (List Int)) × (List Int) × Int)) => spec_l12Good_L1 N fu_ x_.1 x_.2) (B := fun kx_ x_ => spec_l12Good_B1 N (fun t l1 => kx_ (t, l1)) x_.1 x_.2) (fun _ _ => rfl) (fun j_ => (t j_, l1 j_)) n_ (fun j_ hi_ kx_ => hstep_ j_ hi_ _) (fun kx_ => hend_ _) fu_ hm_
def spec_l12Good (N : Nat) (l : ((List Int) × (List Int) × (List Int) × (List Int)) × (List Int) × Int) : Option (Bool × Unit) :=
  (spec_l2Good N l.1).bind fun r =>
  bif !r.1 then
    some (false, ())
  else
    (spec_l2Row N l.2.1 (len l.1.1) 200).bind fun r1 =>
    bif !r1.1 then
      some (false, ())
    else
      (spec_l1In N l.2.2 0 (len l.1.1)).bind fun r2 =>
      bif !r2.1 then
        some (false, ())
      else
        spec_l12Good_L1 N N 1 l
def spec_l1Own (N : Nat) (l : List Int) : Option ((List Int) × Unit) :=
  chk (fitB (0 + l.length) 8) <|
  some (l, ())
def spec_l12Own (N : Nat) (l : ((List Int) × (List Int) × (List Int) × (List Int)) × (List Int) × Int) : Option ((((List Int) × (List Int) × (List Int) × (List Int)) × (List Int) × Int) × Unit) :=
  (spec_l1Own N l.1.1).bind fun r =>
  (spec_l1Own N l.1.2.1).bind fun r1 =>
  (spec_l1Own N l.1.2.2.1).bind fun r2 =>
  (spec_l1Own N l.1.2.2.2).bind fun r3 =>
  (spec_l1Own N l.2.1).bind fun r4 =>
  some (((r.1, (r1.1, (r2.1, r3.1))), (r4.1, l.2.2)), ())
def spec_NewConsole (N : Nat) (l : ((List Int) × (List Int) × (List Int) × (List Int)) × (List Int) × Int) : Option ((((((List Int) × (List Int) × (List Int) × (List Int)) × (List Int) × Int) × ByteArray × ByteArray × Int) × Bool) × Unit) :=
  (spec_l12Good N l).bind fun r =>
  bif !r.1 then
    some ((((([], ([], ([], []))), ([], 0)), ((⟨#[]⟩ : ByteArray), ((⟨#[]⟩ : ByteArray), 0))), false), ())
  else
    (spec_l12Own N l).bind fun r1 =>
    some (((r1.1, ((⟨#[]⟩ : ByteArray), ((⟨#[]⟩ : ByteArray), 0))), true), ())
def laws_toIntS_K1 (N : Nat) (out1 : List Int) : Option ((List Int) × Unit) :=
  some (out1, ())
def laws_toIntS_B1 (N : Nat) (kx : (List Int) → Int → (List Int) → Option ((List Int) × Unit)) (a1 : List Int) (i : Int) (out : List Int) : Option ((List Int) × Unit) :=
  bif ilt i (len a1) then
    chk (inB i a1.length) <|
    chk (inB i out.length) <|
    kx a1 (iadd .i64 i 1) (List.set out i.toNat (gd a1 i.toNat 0))
  else
    laws_toIntS_K1 N out
def laws_toIntS_L1 (N fu_ : Nat) (a1 : List Int) (i : Int) (out : List Int) : Option ((List Int) × Unit) :=
  iterK fu_ (fun kx (v_ : ((List Int) × Int × Unit) × ((List Int) × Unit)) => laws_toIntS_B1 N (fun a1 i out => kx ((a1, i, ()), (out, ()))) v_.1.1 v_.1.2.1 v_.2.1) ((a1, i, ()), (out, ()))
theorem laws_toIntS_L1_succ (N fu_ : Nat) (a1 : List Int) (i : Int) (out : List Int) : laws_toIntS_L1 N (fu_ + 1) a1 i out = laws_toIntS_B1 N (fun a1 i out => laws_toIntS_L1 N fu_ a1 i out) a1 i out := rfl
theorem laws_toIntS_L1_run (N : Nat) (a1 : Nat → (List Int)) (i : Nat → Int) (out : Nat → (List Int)) (n_ : Nat) {res_ : Option ((List Int) × Unit)} (hstep_ : ∀ j_, j_ < n_ → ∀ kx_, laws_toIntS_B1 N kx_ (a1 j_) (i j_) (out j_) = kx_ (a1 (j_ + 1)) (i (j_ + 1)) (out (j_ + 1))) (hend_ : ∀ kx_, laws_toIntS_B1 N kx_ (a1 n_) (i n_) (out n_) = res_) (fu_ : Nat) (hm_ : n_ < fu_) : laws_toIntS_L1 N fu_ (a1 0) (i 0) (out 0) = res_ := by
  exact loop_run (L := fun fu_ (x_ : (List Int) × Int × (List Int)) => laws_toIntS_L1 N fu_ x_.1 x_.2.1 x_.2.2) (B := fun kx_ x_ => laws_toIntS_B1 N (fun a1 i out => kx_ (a1, i, out)) x_.1 x_.2.1 x_.2.2) (fun _ _ => rfl) (fun j_ => (a1 j_, i j_, out j_)) n_ (fun j_ hi_ kx_ => hstep_ j_ hi_ _) (fun kx_ => hend_ _) fu_ hm_
def laws_toIntS (N : Nat) (a : List Int) : Option ((List Int) × Unit) :=
  chk (mkB (len a) 8) <|
  laws_toIntS_L1 N N a 0 (List.replicate (len a).toNat 0)
def laws_toCase (N : Nat) (a : (List Int) × (List Int) × (List Int) × (List Int)) : Option (((List Int) × (List Int) × (List Int) × (List Int)) × Unit) :=
  (laws_toIntS N a.1).bind fun r =>
  (laws_toIntS N a.2.1).bind fun r1 =>
  (laws_toIntS N a.2.2.1).bind fun r2 =>
  (laws_toIntS N a.2.2.2).bind fun r3 =>
  some ((r.1, (r1.1, (r2.1, r3.1))), ())
def laws_toLedger (N : Nat) (a : ((List Int) × (List Int) × (List Int) × (List Int)) × (List Int) × Int) : Option ((((List Int) × (List Int) × (List Int) × (List Int)) × (List Int) × Int) × Unit) :=
  (laws_toCase N a.1).bind fun r =>
  (laws_toIntS N a.2.1).bind fun r1 =>
  some ((r.1, (r1.1, a.2.2)), ())
def impl_within (N : Nat) (n : Int) (low : Int) (high : Int) : Option (Bool × Unit) :=
  bif ile low n then
    some (ile n high, ())
  else
    some (false, ())
def impl_allWithin_K1 (N : Nat) : Option (Bool × Unit) :=
  some (true, ())
def impl_allWithin_B1 (N : Nat) (kx : Int → Int → (List Int) → Int → Int → Option (Bool × Unit)) (low1 : Int) (high1 : Int) (v9 : List Int) (v10 : Int) (v11 : Int) : Option (Bool × Unit) :=
  bif ilt v11 v10 then
    chk (inB v11 v9.length) <|
    (impl_within N (gd v9 v11.toNat 0) low1 high1).bind fun r =>
    bif !r.1 then
      some (false, ())
    else
      kx low1 high1 v9 v10 (iadd .i64 v11 1)
  else
    impl_allWithin_K1 N
def impl_allWithin_L1 (N fu_ : Nat) (low1 : Int) (high1 : Int) (v9 : List Int) (v10 : Int) (v11 : Int) : Option (Bool × Unit) :=
  iterK fu_ (fun kx (v_ : (Int × Int × (List Int) × Int × Int × Unit) × (Unit)) => impl_allWithin_B1 N (fun low1 high1 v9 v10 v11 => kx ((low1, high1, v9, v10, v11, ()), ())) v_.1.1 v_.1.2.1 v_.1.2.2.1 v_.1.2.2.2.1 v_.1.2.2.2.2.1) ((low1, high1, v9, v10, v11, ()), ())
theorem impl_allWithin_L1_succ (N fu_ : Nat) (low1 : Int) (high1 : Int) (v9 : List Int) (v10 : Int) (v11 : Int) : impl_allWithin_L1 N (fu_ + 1) low1 high1 v9 v10 v11 = impl_allWithin_B1 N (fun low1 high1 v9 v10 v11 => impl_allWithin_L1 N fu_ low1 high1 v9 v10 v11) low1 high1 v9 v10 v11 := rfl
theorem impl_allWithin_L1_run (N : Nat) (low1 : Nat → Int) (high1 : Nat → Int) (v9 : Nat → (List Int)) (v10 : Nat → Int) (v11 : Nat → Int) (n_ : Nat) {res_ : Option (Bool × Unit)} (hstep_ : ∀ j_, j_ < n_ → ∀ kx_, impl_allWithin_B1 N kx_ (low1 j_) (high1 j_) (v9 j_) (v10 j_) (v11 j_) = kx_ (low1 (j_ + 1)) (high1 (j_ + 1)) (v9 (j_ + 1)) (v10 (j_ + 1)) (v11 (j_ + 1))) (hend_ : ∀ kx_, impl_allWithin_B1 N kx_ (low1 n_) (high1 n_) (v9 n_) (v10 n_) (v11 n_) = res_) (fu_ : Nat) (hm_ : n_ < fu_) : impl_allWithin_L1 N fu_ (low1 0) (high1 0) (v9 0) (v10 0) (v11 0) = res_ := by
  exact loop_run (L := fun fu_ (x_ : Int × Int × (List Int) × Int × Int) => impl_allWithin_L1 N fu_ x_.1 x_.2.1 x_.2.2.1 x_.2.2.2.1 x_.2.2.2.2) (B := fun kx_ x_ => impl_allWithin_B1 N (fun low1 high1 v9 v10 v11 => kx_ (low1, high1, v9, v10, v11)) x_.1 x_.2.1 x_.2.2.1 x_.2.2.2.1 x_.2.2.2.2) (fun _ _ => rfl) (fun j_ => (low1 j_, high1 j_, v9 j_, v10 j_, v11 j_)) n_ (fun j_ hi_ kx_ => hstep_ j_ hi_ _) (fun kx_ => hend_ _) fu_ hm_
def impl_allWithin (N : Nat) (list : List Int) (low : Int) (high : Int) : Option (Bool × Unit) :=
  impl_allWithin_L1 N N low high list (len list) 0
def impl_IsCase (N : Nat) (c : (List Int) × (List Int) × (List Int) × (List Int)) : Option (Bool × Unit) :=
  bif ile (len c.1) 8 then
    bif ieq (len c.2.1) (len c.1) then
      bif ieq (len c.2.2.1) (len c.1) then
        bif ieq (len c.2.2.2) (len c.1) then
          (impl_allWithin N c.1 0 20).bind fun r =>
          bif r.1 then
            (impl_allWithin N c.2.1 0 99).bind fun r1 =>
            bif r1.1 then
              (impl_allWithin N c.2.2.1 0 9).bind fun r2 =>
              bif r2.1 then
                (impl_allWithin N c.2.2.2 0 9).bind fun r3 =>
                some (r3.1, ())
              else
                some (false, ())
            else
              some (false, ())
          else
            some (false, ())
        else
          some (false, ())
      else
        some (false, ())
    else
      some (false, ())
  else
    some (false, ())
def impl_total_K1 (N : Nat) (sum1 : Int) : Option (Int × Unit) :=
  some (sum1, ())
def impl_total_B1 (N : Nat) (kx : Int → (List Int) → Int → Int → Option (Int × Unit)) (sum : Int) (v6 : List Int) (v7 : Int) (v8 : Int) : Option (Int × Unit) :=
  bif ilt v8 v7 then
    chk (inB v8 v6.length) <|
    kx (iadd .i64 sum (gd v6 v8.toNat 0)) v6 v7 (iadd .i64 v8 1)
  else
    impl_total_K1 N sum
def impl_total_L1 (N fu_ : Nat) (sum : Int) (v6 : List Int) (v7 : Int) (v8 : Int) : Option (Int × Unit) :=
  iterK fu_ (fun kx (v_ : (Int × (List Int) × Int × Int × Unit) × (Unit)) => impl_total_B1 N (fun sum v6 v7 v8 => kx ((sum, v6, v7, v8, ()), ())) v_.1.1 v_.1.2.1 v_.1.2.2.1 v_.1.2.2.2.1) ((sum, v6, v7, v8, ()), ())
theorem impl_total_L1_succ (N fu_ : Nat) (sum : Int) (v6 : List Int) (v7 : Int) (v8 : Int) : impl_total_L1 N (fu_ + 1) sum v6 v7 v8 = impl_total_B1 N (fun sum v6 v7 v8 => impl_total_L1 N fu_ sum v6 v7 v8) sum v6 v7 v8 := rfl
theorem impl_total_L1_run (N : Nat) (sum : Nat → Int) (v6 : Nat → (List Int)) (v7 : Nat → Int) (v8 : Nat → Int) (n_ : Nat) {res_ : Option (Int × Unit)} (hstep_ : ∀ j_, j_ < n_ → ∀ kx_, impl_total_B1 N kx_ (sum j_) (v6 j_) (v7 j_) (v8 j_) = kx_ (sum (j_ + 1)) (v6 (j_ + 1)) (v7 (j_ + 1)) (v8 (j_ + 1))) (hend_ : ∀ kx_, impl_total_B1 N kx_ (sum n_) (v6 n_) (v7 n_) (v8 n_) = res_) (fu_ : Nat) (hm_ : n_ < fu_) : impl_total_L1 N fu_ (sum 0) (v6 0) (v7 0) (v8 0) = res_ := by
  exact loop_run (L := fun fu_ (x_ : Int × (List Int) × Int × Int) => impl_total_L1 N fu_ x_.1 x_.2.1 x_.2.2.1 x_.2.2.2) (B := fun kx_ x_ => impl_total_B1 N (fun sum v6 v7 v8 => kx_ (sum, v6, v7, v8)) x_.1 x_.2.1 x_.2.2.1 x_.2.2.2) (fun _ _ => rfl) (fun j_ => (sum j_, v6 j_, v7 j_, v8 j_)) n_ (fun j_ hi_ kx_ => hstep_ j_ hi_ _) (fun kx_ => hend_ _) fu_ hm_
def impl_total (N : Nat) (list : List Int) : Option (Int × Unit) :=
  impl_total_L1 N N 0 list (len list) 0
def impl_Ledger_stock (N : Nat) (l : ((List Int) × (List Int) × (List Int) × (List Int)) × (List Int) × Int) (n : Int) : Option (Int × Unit) :=
  chk (cutB 0 n l.2.1.length) <|
  (impl_total N (cut l.2.1 0 n)).bind fun r =>
  chk (cutB 0 n l.1.1.length) <|
  (impl_total N (cut l.1.1 0 n)).bind fun r1 =>
  some (isub .i64 r.1 r1.1, ())
def impl_IsLedger_K1 (N : Nat) : Option (Bool × Unit) :=
  some (true, ())
def impl_IsLedger_B1 (N : Nat) (kx : Int → Int → (((List Int) × (List Int) × (List Int) × (List Int)) × (List Int) × Int) → Option (Bool × Unit)) (v34 : Int) (v35 : Int) (l1 : ((List Int) × (List Int) × (List Int) × (List Int)) × (List Int) × Int) : Option (Bool × Unit) :=
  bif ilt v35 v34 then
    (impl_Ledger_stock N l1 (iadd .i64 v35 1)).bind fun r3 =>
    bif ilt r3.1 0 then
      some (false, ())
    else
      kx v34 (iadd .i64 v35 1) l1
  else
    impl_IsLedger_K1 N
def impl_IsLedger_L1 (N fu_ : Nat) (v34 : Int) (v35 : Int) (l1 : ((List Int) × (List Int) × (List Int) × (List Int)) × (List Int) × Int) : Option (Bool × Unit) :=
  iterK fu_ (fun kx (v_ : (Int × Int × Unit) × ((((List Int) × (List Int) × (List Int) × (List Int)) × (List Int) × Int) × Unit)) => impl_IsLedger_B1 N (fun v34 v35 l1 => kx ((v34, v35, ()), (l1, ()))) v_.1.1 v_.1.2.1 v_.2.1) ((v34, v35, ()), (l1, ()))
theorem impl_IsLedger_L1_succ (N fu_ : Nat) (v34 : Int) (v35 : Int) (l1 : ((List Int) × (List Int) × (List Int) × (List Int)) × (List Int) × Int) : impl_IsLedger_L1 N (fu_ + 1) v34 v35 l1 = impl_IsLedger_B1 N (fun v34 v35 l1 => impl_IsLedger_L1 N fu_ v34 v35 l1) v34 v35 l1 := rfl
theorem impl_IsLedger_L1_run (N : Nat) (v34 : Nat → Int) (v35 : Nat → Int) (l1 : Nat → (((List Int) × (List Int) × (List Int) × (List Int)) × (List Int) × Int)) (n_ : Nat) {res_ : Option (Bool × Unit)} (hstep_ : ∀ j_, j_ < n_ → ∀ kx_, impl_IsLedger_B1 N kx_ (v34 j_) (v35 j_) (l1 j_) = kx_ (v34 (j_ + 1)) (v35 (j_ + 1)) (l1 (j_ + 1))) (hend_ : ∀ kx_, impl_IsLedger_B1 N kx_ (v34 n_) (v35 n_) (l1 n_) = res_) (fu_ : Nat) (hm_ : n_ < fu_) : impl_IsLedger_L1 N fu_ (v34 0) (v35 0) (l1 0) = res_ := by
  exact loop_run (L := fun fu_ (x_ : Int × Int × (((List Int) × (List Int) × (List Int) × (List Int)) × (List Int) × Int)) => impl_IsLedger_L1 N fu_ x_.1 x_.2.1 x_.2.2) (B := fun kx_ x_ => impl_IsLedger_B1 N (fun v34 v35 l1 => kx_ (v34, v35, l1)) x_.1 x_.2.1 x_.2.2) (fun _ _ => rfl) (fun j_ => (v34 j_, v35 j_, l1 j_)) n_ (fun j_ hi_ kx_ => hstep_ j_ hi_ _) (fun kx_ => hend_ _) fu_ hm_
def impl_IsLedger (N : Nat) (l : ((List Int) × (List Int) × (List Int) × (List Int)) × (List Int) × Int) : Option (Bool × Unit) :=
  (impl_IsCase N l.1).bind fun r =>
  bif !r.1 then
    some (false, ())
  else
    bif ine (len l.2.1) (len l.1.1) then
      some (false, ())
    else
      (impl_allWithin N l.2.1 0 200).bind fun r1 =>
      bif !r1.1 then
        some (false, ())
      else
        (impl_within N l.2.2 0 (len l.2.1)).bind fun r2 =>
        bif !r2.1 then
          some (false, ())
        else
          impl_IsLedger_L1 N N l.2.2 0 l
def impl_copied (N : Nat) (list : List Int) : Option ((List Int) × Unit) :=
  chk (fitB (0 + list.length) 8) <|
  some (list, ())
def impl_Ledger_own (N : Nat) (l : ((List Int) × (List Int) × (List Int) × (List Int)) × (List Int) × Int) : Option ((((List Int) × (List Int) × (List Int) × (List Int)) × (List Int) × Int) × Unit) :=
  (impl_copied N l.1.1).bind fun r =>
  (impl_copied N l.1.2.1).bind fun r1 =>
  (impl_copied N l.1.2.2.1).bind fun r2 =>
  (impl_copied N l.1.2.2.2).bind fun r3 =>
  (impl_copied N l.2.1).bind fun r4 =>
  some (((r.1, (r1.1, (r2.1, r3.1))), (r4.1, l.2.2)), ())
def impl_NewConsole (N : Nat) (l : ((List Int) × (List Int) × (List Int) × (List Int)) × (List Int) × Int) : Option ((((((List Int) × (List Int) × (List Int) × (List Int)) × (List Int) × Int) × ByteArray × ByteArray × Int) × Bool) × Unit) :=
  (impl_IsLedger N l).bind fun r =>
  bif !r.1 then
    some ((((([], ([], ([], []))), ([], 0)), ((⟨#[]⟩ : ByteArray), ((⟨#[]⟩ : ByteArray), 0))), false), ())
  else
    (impl_Ledger_own N l).bind fun r1 =>
    some (((r1.1, ((⟨#[]⟩ : ByteArray), ((⟨#[]⟩ : ByteArray), 0))), true), ())
def laws_eqIntS_K1 (N : Nat) : Option (Bool × Unit) :=
  some (true, ())
def laws_eqIntS_B1 (N : Nat) (kx : (List Int) → (List Int) → Int → Option (Bool × Unit)) (a1 : List Int) (b1 : List Int) (i : Int) : Option (Bool × Unit) :=
  bif ilt i (len a1) then
    chk (inB i a1.length) <|
    chk (inB i b1.length) <|
    bif ine (gd a1 i.toNat 0) (gd b1 i.toNat 0) then
      some (false, ())
    else
      kx a1 b1 (iadd .i64 i 1)
  else
    laws_eqIntS_K1 N
def laws_eqIntS_L1 (N fu_ : Nat) (a1 : List Int) (b1 : List Int) (i : Int) : Option (Bool × Unit) :=
  iterK fu_ (fun kx (v_ : ((List Int) × (List Int) × Int × Unit) × (Unit)) => laws_eqIntS_B1 N (fun a1 b1 i => kx ((a1, b1, i, ()), ())) v_.1.1 v_.1.2.1 v_.1.2.2.1) ((a1, b1, i, ()), ())
theorem laws_eqIntS_L1_succ (N fu_ : Nat) (a1 : List Int) (b1 : List Int) (i : Int) : laws_eqIntS_L1 N (fu_ + 1) a1 b1 i = laws_eqIntS_B1 N (fun a1 b1 i => laws_eqIntS_L1 N fu_ a1 b1 i) a1 b1 i := rfl
theorem laws_eqIntS_L1_run (N : Nat) (a1 : Nat → (List Int)) (b1 : Nat → (List Int)) (i : Nat → Int) (n_ : Nat) {res_ : Option (Bool × Unit)} (hstep_ : ∀ j_, j_ < n_ → ∀ kx_, laws_eqIntS_B1 N kx_ (a1 j_) (b1 j_) (i j_) = kx_ (a1 (j_ + 1)) (b1 (j_ + 1)) (i (j_ + 1))) (hend_ : ∀ kx_, laws_eqIntS_B1 N kx_ (a1 n_) (b1 n_) (i n_) = res_) (fu_ : Nat) (hm_ : n_ < fu_) : laws_eqIntS_L1 N fu_ (a1 0) (b1 0) (i 0) = res_ := by
  exact loop_run (L := fun fu_ (x_ : (List Int) × (List Int) × Int) => laws_eqIntS_L1 N fu_ x_.1 x_.2.1 x_.2.2) (B := fun kx_ x_ => laws_eqIntS_B1 N (fun a1 b1 i => kx_ (a1, b1, i)) x_.1 x_.2.1 x_.2.2) (fun _ _ => rfl) (fun j_ => (a1 j_, b1 j_, i j_)) n_ (fun j_ hi_ kx_ => hstep_ j_ hi_ _) (fun kx_ => hend_ _) fu_ hm_
def laws_eqIntS (N : Nat) (a : List Int) (b : List Int) : Option (Bool × Unit) :=
  bif ine (len a) (len b) then
    some (false, ())
  else
    laws_eqIntS_L1 N N a b 0
def laws_eqCase (N : Nat) (a : (List Int) × (List Int) × (List Int) × (List Int)) (b : (List Int) × (List Int) × (List Int) × (List Int)) : Option (Bool × Unit) :=
  (laws_eqIntS N a.1 b.1).bind fun r =>
  bif !r.1 then
    some (false, ())
  else
    (laws_eqIntS N a.2.1 b.2.1).bind fun r1 =>
    bif !r1.1 then
      some (false, ())
    else
      (laws_eqIntS N a.2.2.1 b.2.2.1).bind fun r2 =>
      bif !r2.1 then
        some (false, ())
      else
        (laws_eqIntS N a.2.2.2 b.2.2.2).bind fun r3 =>
        bif !r3.1 then
          some (false, ())
        else
          some (true, ())
def laws_eqLedger (N : Nat) (a : ((List Int) × (List Int) × (List Int) × (List Int)) × (List Int) × Int) (b : ((List Int) × (List Int) × (List Int) × (List Int)) × (List Int) × Int) : Option (Bool × Unit) :=
  (laws_eqCase N a.1 b.1).bind fun r =>
  bif !r.1 then
    some (false, ())
  else
    (laws_eqIntS N a.2.1 b.2.1).bind fun r1 =>
    bif !r1.1 then
      some (false, ())
    else
      bif ine a.2.2 b.2.2 then
        some (false, ())
      else
        some (true, ())
def laws_eqLog (N : Nat) (a : ByteArray × ByteArray × Int) (b : ByteArray × ByteArray × Int) : Option (Bool × Unit) :=
  bif !(Go.Rx.seq a.1 b.1) then
    some (false, ())
  else
    bif !(Go.Rx.seq a.2.1 b.2.1) then
      some (false, ())
    else
      bif ine a.2.2 b.2.2 then
        some (false, ())
      else
        some (true, ())
def laws_eqConsole (N : Nat) (a : (((List Int) × (List Int) × (List Int) × (List Int)) × (List Int) × Int) × ByteArray × ByteArray × Int) (b : (((List Int) × (List Int) × (List Int) × (List Int)) × (List Int) × Int) × ByteArray × ByteArray × Int) : Option (Bool × Unit) :=
  (laws_eqLedger N a.1 b.1).bind fun r =>
  bif !r.1 then
    some (false, ())
  else
    (laws_eqLog N a.2 b.2).bind fun r1 =>
    bif !r1.1 then
      some (false, ())
    else
      some (true, ())
def laws_markIntS_K1 (N : Nat) (kx3 : Int) (a2 : List Int) : Option (Int × (List Int)) :=
  some (kx3, a2)
def laws_markIntS_B1 (N : Nat) (kx2 : Int → Int → (List Int) → Option (Int × (List Int))) (kx1 : Int) (i : Int) (a1 : List Int) : Option (Int × (List Int)) :=
  bif ilt i (len a1) then
    chk (inB i a1.length) <|
    kx2 (iadd .i64 kx1 1) (iadd .i64 i 1) (List.set a1 i.toNat kx1)
  else
    laws_markIntS_K1 N kx1 a1
def laws_markIntS_L1 (N fu_ : Nat) (kx1 : Int) (i : Int) (a1 : List Int) : Option (Int × (List Int)) :=
  iterK fu_ (fun kx2 (v_ : (Int × Int × Unit) × ((List Int) × Unit)) => laws_markIntS_B1 N (fun kx1 i a1 => kx2 ((kx1, i, ()), (a1, ()))) v_.1.1 v_.1.2.1 v_.2.1) ((kx1, i, ()), (a1, ()))
theorem laws_markIntS_L1_succ (N fu_ : Nat) (kx1 : Int) (i : Int) (a1 : List Int) : laws_markIntS_L1 N (fu_ + 1) kx1 i a1 = laws_markIntS_B1 N (fun kx1 i a1 => laws_markIntS_L1 N fu_ kx1 i a1) kx1 i a1 := rfl
theorem laws_markIntS_L1_run (N : Nat) (kx1 : Nat → Int) (i : Nat → Int) (a1 : Nat → (List Int)) (n_ : Nat) {res_ : Option (Int × (List Int))} (hstep_ : ∀ j_, j_ < n_ → ∀ kx_, laws_markIntS_B1 N kx_ (kx1 j_) (i j_) (a1 j_) = kx_ (kx1 (j_ + 1)) (i (j_ + 1)) (a1 (j_ + 1))) (hend_ : ∀ kx_, laws_markIntS_B1 N kx_ (kx1 n_) (i n_) (a1 n_) = res_) (fu_ : Nat) (hm_ : n_ < fu_) : laws_markIntS_L1 N fu_ (kx1 0) (i 0) (a1 0) = res_ := by
  exact loop_run (L := fun fu_ (x_ : Int × Int × (List Int)) => laws_markIntS_L1 N fu_ x_.1 x_.2.1 x_.2.2) (B := fun kx_ x_ => laws_markIntS_B1 N (fun kx1 i a1 => kx_ (kx1, i, a1)) x_.1 x_.2.1 x_.2.2) (fun _ _ => rfl) (fun j_ => (kx1 j_, i j_, a1 j_)) n_ (fun j_ hi_ kx_ => hstep_ j_ hi_ _) (fun kx_ => hend_ _) fu_ hm_
def laws_markIntS (N : Nat) (a : List Int) (kx : Int) : Option (Int × (List Int)) :=
  laws_markIntS_L1 N N kx 0 a
def laws_markCase (N : Nat) (a : (List Int) × (List Int) × (List Int) × (List Int)) (kx : Int) : Option (Int × ((List Int) × (List Int) × (List Int) × (List Int))) :=
  (laws_markIntS N a.1 kx).bind fun r =>
  (laws_markIntS N a.2.1 r.1).bind fun r1 =>
  (laws_markIntS N a.2.2.1 r1.1).bind fun r2 =>
  (laws_markIntS N a.2.2.2 r2.1).bind fun r3 =>
  some (r3.1, (r.2, (r1.2, (r2.2, r3.2))))
def laws_markLedger (N : Nat) (a : ((List Int) × (List Int) × (List Int) × (List Int)) × (List Int) × Int) (kx : Int) : Option (Int × (((List Int) × (List Int) × (List Int) × (List Int)) × (List Int) × Int)) :=
  (laws_markCase N a.1 kx).bind fun r =>
  (laws_markIntS N a.2.1 r.1).bind fun r1 =>
  some (r1.1, (r.2, (r1.2, a.2.2)))
def laws_markConsole (N : Nat) (a : (((List Int) × (List Int) × (List Int) × (List Int)) × (List Int) × Int) × ByteArray × ByteArray × Int) (kx : Int) : Option (Int × ((((List Int) × (List Int) × (List Int) × (List Int)) × (List Int) × Int) × ByteArray × ByteArray × Int)) :=
  (laws_markLedger N a.1 kx).bind fun r =>
  some (r.1, (r.2, a.2))
def laws_heldIntS_K1 (N : Nat) (kx3 : Int) : Option (Int × Unit) :=
  some (kx3, ())
def laws_heldIntS_B1 (N : Nat) (kx2 : (List Int) → Int → Int → Option (Int × Unit)) (a1 : List Int) (kx1 : Int) (i : Int) : Option (Int × Unit) :=
  bif ilt i (len a1) then
    chk (inB i a1.length) <|
    bif ine (gd a1 i.toNat 0) kx1 then
      some ((-1), ())
    else
      kx2 a1 (iadd .i64 kx1 1) (iadd .i64 i 1)
  else
    laws_heldIntS_K1 N kx1
def laws_heldIntS_L1 (N fu_ : Nat) (a1 : List Int) (kx1 : Int) (i : Int) : Option (Int × Unit) :=
  iterK fu_ (fun kx2 (v_ : ((List Int) × Int × Int × Unit) × (Unit)) => laws_heldIntS_B1 N (fun a1 kx1 i => kx2 ((a1, kx1, i, ()), ())) v_.1.1 v_.1.2.1 v_.1.2.2.1) ((a1, kx1, i, ()), ())
theorem laws_heldIntS_L1_succ (N fu_ : Nat) (a1 : List Int) (kx1 : Int) (i : Int) : laws_heldIntS_L1 N (fu_ + 1) a1 kx1 i = laws_heldIntS_B1 N (fun a1 kx1 i => laws_heldIntS_L1 N fu_ a1 kx1 i) a1 kx1 i := rfl
theorem laws_heldIntS_L1_run (N : Nat) (a1 : Nat → (List Int)) (kx1 : Nat → Int) (i : Nat → Int) (n_ : Nat) {res_ : Option (Int × Unit)} (hstep_ : ∀ j_, j_ < n_ → ∀ kx_, laws_heldIntS_B1 N kx_ (a1 j_) (kx1 j_) (i j_) = kx_ (a1 (j_ + 1)) (kx1 (j_ + 1)) (i (j_ + 1))) (hend_ : ∀ kx_, laws_heldIntS_B1 N kx_ (a1 n_) (kx1 n_) (i n_) = res_) (fu_ : Nat) (hm_ : n_ < fu_) : laws_heldIntS_L1 N fu_ (a1 0) (kx1 0) (i 0) = res_ := by
  exact loop_run (L := fun fu_ (x_ : (List Int) × Int × Int) => laws_heldIntS_L1 N fu_ x_.1 x_.2.1 x_.2.2) (B := fun kx_ x_ => laws_heldIntS_B1 N (fun a1 kx1 i => kx_ (a1, kx1, i)) x_.1 x_.2.1 x_.2.2) (fun _ _ => rfl) (fun j_ => (a1 j_, kx1 j_, i j_)) n_ (fun j_ hi_ kx_ => hstep_ j_ hi_ _) (fun kx_ => hend_ _) fu_ hm_
def laws_heldIntS (N : Nat) (a : List Int) (kx : Int) : Option (Int × Unit) :=
  laws_heldIntS_L1 N N a kx 0
def laws_heldCase (N : Nat) (a : (List Int) × (List Int) × (List Int) × (List Int)) (kx : Int) : Option (Int × Unit) :=
  (laws_heldIntS N a.1 kx).bind fun r =>
  bif ilt r.1 0 then
    some ((-1), ())
  else
    (laws_heldIntS N a.2.1 r.1).bind fun r1 =>
    bif ilt r1.1 0 then
      some ((-1), ())
    else
      (laws_heldIntS N a.2.2.1 r1.1).bind fun r2 =>
      bif ilt r2.1 0 then
        some ((-1), ())
      else
        (laws_heldIntS N a.2.2.2 r2.1).bind fun r3 =>
        bif ilt r3.1 0 then
          some ((-1), ())
        else
          some (r3.1, ())
def laws_heldLedger (N : Nat) (a : ((List Int) × (List Int) × (List Int) × (List Int)) × (List Int) × Int) (kx : Int) : Option (Int × Unit) :=
  (laws_heldCase N a.1 kx).bind fun r =>
  bif ilt r.1 0 then
    some ((-1), ())
  else
    (laws_heldIntS N a.2.1 r.1).bind fun r1 =>
    bif ilt r1.1 0 then
      some ((-1), ())
    else
      some (r1.1, ())
def laws_heldConsole (N : Nat) (a : (((List Int) × (List Int) × (List Int) × (List Int)) × (List Int) × Int) × ByteArray × ByteArray × Int) (kx : Int) : Option (Int × Unit) :=
  (laws_heldLedger N a.1 kx).bind fun r =>
  bif ilt r.1 0 then
    some ((-1), ())
  else
    some (r.1, ())
def laws_FnExactNewConsole (N : Nat) (app : ((List Int) × (List Int) × (List Int) × (List Int)) × (List Int) × Int) : Option (Bool × Unit) :=
  (laws_szLedger N app 1048576).bind fun r =>
  bif ilt r.1 0 then
    some (true, ())
  else
    (laws_toLedger N app).bind fun r1 =>
    (spec_NewConsole N r1.1).bind fun r2 =>
    (laws_toLedger N app).bind fun r3 =>
    (impl_NewConsole N r3.1).bind fun r4 =>
    (laws_eqConsole N r4.1.1 r2.1.1).bind fun r5 =>
    bif !r5.1 then
      some (false, ())
    else
      bif !(Go.Rx.beq r4.1.2 r2.1.2) then
        some (false, ())
      else
        (laws_toLedger N app).bind fun r6 =>
        (laws_eqLedger N r3.1 r6.1).bind fun r7 =>
        bif !r7.1 then
          some (false, ())
        else
          (laws_markLedger N r3.1 1).bind fun r8 =>
          bif ilt r8.1 0 then
            some (false, ())
          else
            (laws_eqConsole N r4.1.1 r2.1.1).bind fun r9 =>
            bif !r9.1 then
              some (false, ())
            else
              bif !(Go.Rx.beq r4.1.2 r2.1.2) then
                some (false, ())
              else
                (laws_markConsole N r4.1.1 1).bind fun r10 =>
                (laws_heldConsole N r10.2 1).bind fun r11 =>
                bif ilt r11.1 0 then
                  some (false, ())
                else
                  bif ine r11.1 r10.1 then
                    some (false, ())
                  else
                    (laws_toLedger N app).bind fun r12 =>
                    (impl_NewConsole N r12.1).bind fun r13 =>
                    (laws_eqConsole N r13.1.1 r2.1.1).bind fun r14 =>
                    bif !r14.1 then
                      some (false, ())
                    else
                      bif !(Go.Rx.beq r13.1.2 r2.1.2) then
                        some (false, ())
                      else
                        (laws_heldConsole N r10.2 1).bind fun r15 =>
                        bif ilt r15.1 0 then
                          some (false, ())
                        else
                          bif ine r15.1 r10.1 then
                            some (false, ())
                          else
                            some (true, ())
end Px
end Go.Rx
