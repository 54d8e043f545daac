/- This text defines the plain functions that the Go functions behind FnExactChainCost compute; no condition. -/
import Derived.Test.YtplnbkfgedjjkaaRxc
set_option linter.unusedVariables false
set_option linter.unusedSimpArgs false
namespace Go.Rx
namespace Px
def laws_szIntS (N : Nat) (a : List Int) (left : Int) : Option (Int × Unit) :=
  bif ilt (isub .i64 left (len a)) 0 then
    some ((-1), ())
  else
    some (isub .i64 left (len a), ())
def laws_szChain (N : Nat) (a : (List Int) × (List Int) × (List Int)) (left : Int) : Option (Int × Unit) :=
  (laws_szIntS N a.1 left).bind fun r =>
  bif ilt r.1 0 then
    some ((-1), ())
  else
    (laws_szIntS N a.2.1 r.1).bind fun r1 =>
    bif ilt r1.1 0 then
      some ((-1), ())
    else
      (laws_szIntS N a.2.2 r1.1).bind fun r2 =>
      bif ilt r2.1 0 then
        some ((-1), ())
      else
        some (r2.1, ())
def laws_szIntSS_K1 (N : Nat) (left2 : Int) : Option (Int × Unit) :=
  some (left2, ())
def laws_szIntSS_B1 (N : Nat) (kx : (List (List Int)) → Int → Int → Option (Int × Unit)) (a1 : List (List Int)) (left1 : Int) (i : Int) : Option (Int × Unit) :=
  bif ilt i (len a1) then
    chk (inB i a1.length) <|
    (laws_szIntS N (gd a1 i.toNat []) left1).bind fun r =>
    bif ilt r.1 0 then
      some ((-1), ())
    else
      kx a1 r.1 (iadd .i64 i 1)
  else
    laws_szIntSS_K1 N left1
def laws_szIntSS_L1 (N fu_ : Nat) (a1 : List (List Int)) (left1 : Int) (i : Int) : Option (Int × Unit) :=
  iterK fu_ (fun kx (v_ : ((List (List Int)) × Int × Int × Unit) × (Unit)) => laws_szIntSS_B1 N (fun a1 left1 i => kx ((a1, left1, i, ()), ())) v_.1.1 v_.1.2.1 v_.1.2.2.1) ((a1, left1, i, ()), ())
theorem laws_szIntSS_L1_succ (N fu_ : Nat) (a1 : List (List Int)) (left1 : Int) (i : Int) : laws_szIntSS_L1 N (fu_ + 1) a1 left1 i = laws_szIntSS_B1 N (fun a1 left1 i => laws_szIntSS_L1 N fu_ a1 left1 i) a1 left1 i := rfl
theorem laws_szIntSS_L1_run (N : Nat) (a1 : Nat → (List (List Int))) (left1 : Nat → Int) (i : Nat → Int) (n_ : Nat) {res_ : Option (Int × Unit)} (hstep_ : ∀ j_, j_ < n_ → ∀ kx_, laws_szIntSS_B1 N kx_ (a1 j_) (left1 j_) (i j_) = kx_ (a1 (j_ + 1)) (left1 (j_ + 1)) (i (j_ + 1))) (hend_ : ∀ kx_, laws_szIntSS_B1 N kx_ (a1 n_) (left1 n_) (i n_) = res_) (fu_ : Nat) (hm_ : n_ < fu_) : laws_szIntSS_L1 N fu_ (a1 0) (left1 0) (i 0) = res_ := by
  exact loop_run (L := fun fu_ (x_ : (List (List Int)) × Int × Int) => laws_szIntSS_L1 N fu_ x_.1 x_.2.1 x_.2.2) (B := fun kx_ x_ => laws_szIntSS_B1 N (fun a1 left1 i => kx_ (a1, left1, i)) x_.1 x_.2.1 x_.2.2) (fun _ _ => rfl) (fun j_ => (a1 j_, left1 j_, i j_)) n_ (fun j_ hi_ kx_ => hstep_ j_ hi_ _) (fun kx_ => hend_ _) fu_ hm_
def laws_szIntSS (N : Nat) (a : List (List Int)) (left : Int) : Option (Int × Unit) :=
  bif ilt (isub .i64 left (len a)) 0 then
    some ((-1), ())
  else
    laws_szIntSS_L1 N N a (isub .i64 left (len a)) 0
def spec_l1In (N : Nat) (x : Int) (a : Int) (b : Int) : Option (Bool × Unit) :=
  bif ile a x then
    some (ile x b, ())
  else
    some (false, ())
def spec_l2Row_K1 (N : Nat) (row2 : List Int) (n2 : Int) : Option (Bool × Unit) :=
  some (ieq (len row2) n2, ())
def spec_l2Row_B1 (N : Nat) (kx : (List Int) → Int → Int → Int → Option (Bool × Unit)) (row1 : List Int) (n1 : Int) (most1 : Int) (i : Int) : Option (Bool × Unit) :=
  bif ilt i (len row1) then
    chk (inB i row1.length) <|
    (spec_l1In N (gd row1 i.toNat 0) 0 most1).bind fun r =>
    bif !r.1 then
      some (false, ())
    else
      kx row1 n1 most1 (iadd .i64 i 1)
  else
    spec_l2Row_K1 N row1 n1
def spec_l2Row_L1 (N fu_ : Nat) (row1 : List Int) (n1 : Int) (most1 : Int) (i : Int) : Option (Bool × Unit) :=
  iterK fu_ (fun kx (v_ : ((List Int) × Int × Int × Int × Unit) × (Unit)) => spec_l2Row_B1 N (fun row1 n1 most1 i => kx ((row1, n1, most1, i, ()), ())) v_.1.1 v_.1.2.1 v_.1.2.2.1 v_.1.2.2.2.1) ((row1, n1, most1, i, ()), ())
theorem spec_l2Row_L1_succ (N fu_ : Nat) (row1 : List Int) (n1 : Int) (most1 : Int) (i : Int) : spec_l2Row_L1 N (fu_ + 1) row1 n1 most1 i = spec_l2Row_B1 N (fun row1 n1 most1 i => spec_l2Row_L1 N fu_ row1 n1 most1 i) row1 n1 most1 i := rfl
theorem spec_l2Row_L1_run (N : Nat) (row1 : Nat → (List Int)) (n1 : Nat → Int) (most1 : Nat → Int) (i : Nat → Int) (n_ : Nat) {res_ : Option (Bool × Unit)} (hstep_ : ∀ j_, j_ < n_ → ∀ kx_, spec_l2Row_B1 N kx_ (row1 j_) (n1 j_) (most1 j_) (i j_) = kx_ (row1 (j_ + 1)) (n1 (j_ + 1)) (most1 (j_ + 1)) (i (j_ + 1))) (hend_ : ∀ kx_, spec_l2Row_B1 N kx_ (row1 n_) (n1 n_) (most1 n_) (i n_) = res_) (fu_ : Nat) (hm_ : n_ < fu_) : spec_l2Row_L1 N fu_ (row1 0) (n1 0) (most1 0) (i 0) = res_ := by
  exact loop_run (L := fun fu_ (x_ : (List Int) × Int × Int × Int) => spec_l2Row_L1 N fu_ x_.1 x_.2.1 x_.2.2.1 x_.2.2.2) (B := fun kx_ x_ => spec_l2Row_B1 N (fun row1 n1 most1 i => kx_ (row1, n1, most1, i)) x_.1 x_.2.1 x_.2.2.1 x_.2.2.2) (fun _ _ => rfl) (fun j_ => (row1 j_, n1 j_, most1 j_, i j_)) n_ (fun j_ hi_ kx_ => hstep_ j_ hi_ _) (fun kx_ => hend_ _) fu_ hm_
def spec_l2Row (N : Nat) (row : List Int) (n : Int) (most : Int) : Option (Bool × Unit) :=
  spec_l2Row_L1 N N row n most 0
def spec_l7Good_K1 (N : Nat) : Option (Bool × Unit) :=
  some (true, ())
def spec_l7Good_B1 (N : Nat) (kx : Int → ((List Int) × (List Int) × (List Int)) → Option (Bool × Unit)) (s : Int) (c1 : (List Int) × (List Int) × (List Int)) : Option (Bool × Unit) :=
  bif ilt s (len c1.2.2) then
    chk (inB s c1.2.2.length) <|
    chk (inB (isub .i64 s 1) c1.2.2.length) <|
    bif ilt (gd c1.2.2 s.toNat 0) (gd c1.2.2 (isub .i64 s 1).toNat 0) then
      some (false, ())
    else
      kx (iadd .i64 s 1) c1
  else
    spec_l7Good_K1 N
def spec_l7Good_L1 (N fu_ : Nat) (s : Int) (c1 : (List Int) × (List Int) × (List Int)) : Option (Bool × Unit) :=
  iterK fu_ (fun kx (v_ : (Int × Unit) × (((List Int) × (List Int) × (List Int)) × Unit)) => spec_l7Good_B1 N (fun s c1 => kx ((s, ()), (c1, ()))) v_.1.1 v_.2.1) ((s, ()), (c1, ()))
theorem spec_l7Good_L1_succ (N fu_ : Nat) (s : Int) (c1 : (List Int) × (List Int) × (List Int)) : spec_l7Good_L1 N (fu_ + 1) s c1 = spec_l7Good_B1 N (fun s c1 => spec_l7Good_L1 N fu_ s c1) s c1 := rfl
theorem spec_l7Good_L1_run (N : Nat) (s : Nat → Int) (c1 : Nat → ((List Int) × (List Int) × (List Int))) (n_ : Nat) {res_ : Option (Bool × Unit)} (hstep_ : ∀ j_, j_ < n_ → ∀ kx_, spec_l7Good_B1 N kx_ (s j_) (c1 j_) = kx_ (s (j_ + 1)) (c1 (j_ + 1))) (hend_ : ∀ kx_, spec_l7Good_B1 N kx_ (s n_) (c1 n_) = res_) (fu_ : Nat) (hm_ : n_ < fu_) : spec_l7Good_L1 N fu_ (s 0) (c1 0) = res_ := by
  exact loop_run (L := fun fu_ (x_ : Int × ((List Int) × (List Int) × (List Int))) => spec_l7Good_L1 N fu_ x_.1 x_.2) (B := fun kx_ x_ => spec_l7Good_B1 N (fun s c1 => kx_ (s, c1)) x_.1 x_.2) (fun _ _ => rfl) (fun j_ => (s j_, c1 j_)) n_ (fun j_ hi_ kx_ => hstep_ j_ hi_ _) (fun kx_ => hend_ _) fu_ hm_
def spec_l7Good (N : Nat) (c : (List Int) × (List Int) × (List Int)) : Option (Bool × Unit) :=
  bif ilt 6 (len c.1) then
    some (false, ())
  else
    (spec_l2Row N c.1 (len c.1) 20).bind fun r =>
    bif !r.1 then
      some (false, ())
    else
      (spec_l1In N (len c.2.1) 1 3).bind fun r1 =>
      bif !r1.1 then
        some (false, ())
      else
        (spec_l2Row N c.2.1 (len c.2.1) 99).bind fun r2 =>
        bif !r2.1 then
          some (false, ())
        else
          (spec_l2Row N c.2.2 (len c.2.1) 9).bind fun r3 =>
          bif !r3.1 then
            some (false, ())
          else
            spec_l7Good_L1 N N 1 c
def spec_l7Out (N : Nat) (c : (List Int) × (List Int) × (List Int)) (plan : List (List Int)) (stage : Int) (t : Int) : Option (Int × Unit) :=
  bif ilt (iadd .i64 stage 1) (len plan) then
    chk (inB (iadd .i64 stage 1) plan.length) <|
    chk (inB t (gd plan (iadd .i64 stage 1).toNat []).length) <|
    some (gd (gd plan (iadd .i64 stage 1).toNat []) t.toNat 0, ())
  else
    chk (inB t c.1.length) <|
    some (gd c.1 t.toNat 0, ())
def spec_l7Stocks_K1 (N : Nat) (kx : (List (List Int)) → Int → ((List Int) × (List Int) × (List Int)) → (List (List Int)) → Option ((List (List Int)) × Unit)) (plan3 : List (List Int)) (s2 : Int) (c3 : (List Int) × (List Int) × (List Int)) (out2 : List (List Int)) (row1 : List Int) : Option ((List (List Int)) × Unit) :=
  chk (fitB (out2.length + 1) 24) <|
  kx plan3 (iadd .i64 s2 1) c3 (out2 ++ [row1])
def spec_l7Stocks_B1 (N : Nat) (kx : (List (List Int)) → Int → ((List Int) × (List Int) × (List Int)) → (List (List Int)) → Option ((List (List Int)) × Unit)) (kx1 : (List (List Int)) → Int → Int → Int → ((List Int) × (List Int) × (List Int)) → (List (List Int)) → (List Int) → Option ((List (List Int)) × Unit)) (plan2 : List (List Int)) (s1 : Int) (now : Int) (t : Int) (c2 : (List Int) × (List Int) × (List Int)) (out1 : List (List Int)) (row : List Int) : Option ((List (List Int)) × Unit) :=
  bif ilt t (len c2.1) then
    chk (inB s1 plan2.length) <|
    chk (inB t (gd plan2 s1.toNat []).length) <|
    (spec_l7Out N c2 plan2 s1 t).bind fun r =>
    chk (fitB (row.length + 1) 8) <|
    kx1 plan2 s1 (isub .i64 (iadd .i64 now (gd (gd plan2 s1.toNat []) t.toNat 0)) r.1) (iadd .i64 t 1) c2 out1 (row ++ [isub .i64 (iadd .i64 now (gd (gd plan2 s1.toNat []) t.toNat 0)) r.1])
  else
    spec_l7Stocks_K1 N kx plan2 s1 c2 out1 row
def spec_l7Stocks_L1 (N fu_ : Nat) (kx : (List (List Int)) → Int → ((List Int) × (List Int) × (List Int)) → (List (List Int)) → Option ((List (List Int)) × Unit)) (plan2 : List (List Int)) (s1 : Int) (now : Int) (t : Int) (c2 : (List Int) × (List Int) × (List Int)) (out1 : List (List Int)) (row : List Int) : Option ((List (List Int)) × Unit) :=
  iterK fu_ (fun kx1 (v_ : ((List (List Int)) × Int × Int × Int × Unit) × (((List Int) × (List Int) × (List Int)) × (List (List Int)) × (List Int) × Unit)) => spec_l7Stocks_B1 N kx (fun plan2 s1 now t c2 out1 row => kx1 ((plan2, s1, now, t, ()), (c2, out1, row, ()))) v_.1.1 v_.1.2.1 v_.1.2.2.1 v_.1.2.2.2.1 v_.2.1 v_.2.2.1 v_.2.2.2.1) ((plan2, s1, now, t, ()), (c2, out1, row, ()))
theorem spec_l7Stocks_L1_succ (N fu_ : Nat) (kx : (List (List Int)) → Int → ((List Int) × (List Int) × (List Int)) → (List (List Int)) → Option ((List (List Int)) × Unit)) (plan2 : List (List Int)) (s1 : Int) (now : Int) (t : Int) (c2 : (List Int) × (List Int) × (List Int)) (out1 : List (List Int)) (row : List Int) : spec_l7Stocks_L1 N (fu_ + 1) kx plan2 s1 now t c2 out1 row = spec_l7Stocks_B1 N kx (fun plan2 s1 now t c2 out1 row => spec_l7Stocks_L1 N fu_ kx plan2 s1 now t c2 out1 row) plan2 s1 now t c2 out1 row := rfl
theorem spec_l7Stocks_L1_run (N : Nat) (kx : (List (List Int)) → Int → ((List Int) × (List Int) × (List Int)) → (List (List Int)) → Option ((List (List Int)) × Unit)) (plan2 : Nat → (List (List Int))) (s1 : Nat → Int) (now : Nat → Int) (t : Nat → Int) (c2 : Nat → ((List Int) × (List Int) × (List Int))) (out1 : Nat → (List (List Int))) (row : Nat → (List Int)) (n_ : Nat) {res_ : Option ((List (List Int)) × Unit)} (hstep_ : ∀ j_, j_ < n_ → ∀ kx_, spec_l7Stocks_B1 N kx kx_ (plan2 j_) (s1 j_) (now j_) (t j_) (c2 j_) (out1 j_) (row j_) = kx_ (plan2 (j_ + 1)) (s1 (j_ + 1)) (now (j_ + 1)) (t (j_ + 1)) (c2 (j_ + 1)) (out1 (j_ + 1)) (row (j_ + 1))) (hend_ : ∀ kx_, spec_l7Stocks_B1 N kx kx_ (plan2 n_) (s1 n_) (now n_) (t n_) (c2 n_) (out1 n_) (row n_) = res_) (fu_ : Nat) (hm_ : n_ < fu_) : spec_l7Stocks_L1 N fu_ kx (plan2 0) (s1 0) (now 0) (t 0) (c2 0) (out1 0) (row 0) = res_ := by
  exact loop_run (L := fun fu_ (x_ : (List (List Int)) × Int × Int × Int × ((List Int) × (List Int) × (List Int)) × (List (List Int)) × (List Int)) => spec_l7Stocks_L1 N fu_ kx x_.1 x_.2.1 x_.2.2.1 x_.2.2.2.1 x_.2.2.2.2.1 x_.2.2.2.2.2.1 x_.2.2.2.2.2.2) (B := fun kx_ x_ => spec_l7Stocks_B1 N kx (fun plan2 s1 now t c2 out1 row => kx_ (plan2, s1, now, t, c2, out1, row)) x_.1 x_.2.1 x_.2.2.1 x_.2.2.2.1 x_.2.2.2.2.1 x_.2.2.2.2.2.1 x_.2.2.2.2.2.2) (fun _ _ => rfl) (fun j_ => (plan2 j_, s1 j_, now j_, t j_, c2 j_, out1 j_, row j_)) n_ (fun j_ hi_ kx_ => hstep_ j_ hi_ _) (fun kx_ => hend_ _) fu_ hm_
def spec_l7Stocks_K2 (N : Nat) (out3 : List (List Int)) : Option ((List (List Int)) × Unit) :=
  some (out3, ())
def spec_l7Stocks_B2 (N : Nat) (kx : (List (List Int)) → Int → ((List Int) × (List Int) × (List Int)) → (List (List Int)) → Option ((List (List Int)) × Unit)) (plan1 : List (List Int)) (s : Int) (c1 : (List Int) × (List Int) × (List Int)) (out : List (List Int)) : Option ((List (List Int)) × Unit) :=
  bif ilt s (len plan1) then
    spec_l7Stocks_L1 N N kx plan1 s 0 0 c1 out []
  else
    spec_l7Stocks_K2 N out
def spec_l7Stocks_L2 (N fu_ : Nat) (plan1 : List (List Int)) (s : Int) (c1 : (List Int) × (List Int) × (List Int)) (out : List (List Int)) : Option ((List (List Int)) × Unit) :=
  iterK fu_ (fun kx (v_ : ((List (List Int)) × Int × Unit) × (((List Int) × (List Int) × (List Int)) × (List (List Int)) × Unit)) => spec_l7Stocks_B2 N (fun plan1 s c1 out => kx ((plan1, s, ()), (c1, out, ()))) v_.1.1 v_.1.2.1 v_.2.1 v_.2.2.1) ((plan1, s, ()), (c1, out, ()))
theorem spec_l7Stocks_L2_succ (N fu_ : Nat) (plan1 : List (List Int)) (s : Int) (c1 : (List Int) × (List Int) × (List Int)) (out : List (List Int)) : spec_l7Stocks_L2 N (fu_ + 1) plan1 s c1 out = spec_l7Stocks_B2 N (fun plan1 s c1 out => spec_l7Stocks_L2 N fu_ plan1 s c1 out) plan1 s c1 out := rfl
theorem spec_l7Stocks_L2_run (N : Nat) (plan1 : Nat → (List (List Int))) (s : Nat → Int) (c1 : Nat → ((List Int) × (List Int) × (List Int))) (out : Nat → (List (List Int))) (n_ : Nat) {res_ : Option ((List (List Int)) × Unit)} (hstep_ : ∀ j_, j_ < n_ → ∀ kx_, spec_l7Stocks_B2 N kx_ (plan1 j_) (s j_) (c1 j_) (out j_) = kx_ (plan1 (j_ + 1)) (s (j_ + 1)) (c1 (j_ + 1)) (out (j_ + 1))) (hend_ : ∀ kx_, spec_l7Stocks_B2 N kx_ (plan1 n_) (s n_) (c1 n_) (out n_) = res_) (fu_ : Nat) (hm_ : n_ < fu_) : spec_l7Stocks_L2 N fu_ (plan1 0) (s 0) (c1 0) (out 0) = res_ := by
  exact loop_run (L := fun fu_ (x_ : (List (List Int)) × Int × ((List Int) × (List Int) × (List Int)) × (List (List Int))) => spec_l7Stocks_L2 N fu_ x_.1 x_.2.1 x_.2.2.1 x_.2.2.2) (B := fun kx_ x_ => spec_l7Stocks_B2 N (fun plan1 s c1 out => kx_ (plan1, s, c1, out)) x_.1 x_.2.1 x_.2.2.1 x_.2.2.2) (fun _ _ => rfl) (fun j_ => (plan1 j_, s j_, c1 j_, out j_)) n_ (fun j_ hi_ kx_ => hstep_ j_ hi_ _) (fun kx_ => hend_ _) fu_ hm_
def spec_l7Stocks (N : Nat) (c : (List Int) × (List Int) × (List Int)) (plan : List (List Int)) : Option ((List (List Int)) × Unit) :=
  spec_l7Stocks_L2 N N plan 0 c []
def spec_l7Plan_K1 (N : Nat) (kx1 : Int → (List (List Int)) → Option (Bool × Unit)) (v72 : Int) (v62 : List (List Int)) : Option (Bool × Unit) :=
  kx1 (iadd .i64 v72 1) v62
def spec_l7Plan_B1 (N : Nat) (kx1 : Int → (List (List Int)) → Option (Bool × Unit)) (kx2 : Int → Int → (List (List Int)) → Option (Bool × Unit)) (v71 : Int) (v8 : Int) (v61 : List (List Int)) : Option (Bool × Unit) :=
  chk (inB v71 v61.length) <|
  bif ilt v8 (len (gd v61 v71.toNat [])) then
    chk (inB v71 v61.length) <|
    chk (inB v8 (gd v61 v71.toNat []).length) <|
    bif ilt (gd (gd v61 v71.toNat []) v8.toNat 0) 0 then
      some (false, ())
    else
      chk (inB v71 v61.length) <|
      bif ieq (iadd .i64 v8 1) (len (gd v61 v71.toNat [])) then
        chk (inB v71 v61.length) <|
        chk (inB v8 (gd v61 v71.toNat []).length) <|
        bif ilt 0 (gd (gd v61 v71.toNat []) v8.toNat 0) then
          some (false, ())
        else
          kx2 v71 (iadd .i64 v8 1) v61
      else
        kx2 v71 (iadd .i64 v8 1) v61
  else
    spec_l7Plan_K1 N kx1 v71 v61
def spec_l7Plan_L1 (N fu_ : Nat) (kx1 : Int → (List (List Int)) → Option (Bool × Unit)) (v71 : Int) (v8 : Int) (v61 : List (List Int)) : Option (Bool × Unit) :=
  iterK fu_ (fun kx2 (v_ : (Int × Int × Unit) × ((List (List Int)) × Unit)) => spec_l7Plan_B1 N kx1 (fun v71 v8 v61 => kx2 ((v71, v8, ()), (v61, ()))) v_.1.1 v_.1.2.1 v_.2.1) ((v71, v8, ()), (v61, ()))
theorem spec_l7Plan_L1_succ (N fu_ : Nat) (kx1 : Int → (List (List Int)) → Option (Bool × Unit)) (v71 : Int) (v8 : Int) (v61 : List (List Int)) : spec_l7Plan_L1 N (fu_ + 1) kx1 v71 v8 v61 = spec_l7Plan_B1 N kx1 (fun v71 v8 v61 => spec_l7Plan_L1 N fu_ kx1 v71 v8 v61) v71 v8 v61 := rfl
theorem spec_l7Plan_L1_run (N : Nat) (kx1 : Int → (List (List Int)) → Option (Bool × Unit)) (v71 : Nat → Int) (v8 : Nat → Int) (v61 : Nat → (List (List Int))) (n_ : Nat) {res_ : Option (Bool × Unit)} (hstep_ : ∀ j_, j_ < n_ → ∀ kx_, spec_l7Plan_B1 N kx1 kx_ (v71 j_) (v8 j_) (v61 j_) = kx_ (v71 (j_ + 1)) (v8 (j_ + 1)) (v61 (j_ + 1))) (hend_ : ∀ kx_, spec_l7Plan_B1 N kx1 kx_ (v71 n_) (v8 n_) (v61 n_) = res_) (fu_ : Nat) (hm_ : n_ < fu_) : spec_l7Plan_L1 N fu_ kx1 (v71 0) (v8 0) (v61 0) = res_ := by
  exact loop_run (L := fun fu_ (x_ : Int × Int × (List (List Int))) => spec_l7Plan_L1 N fu_ kx1 x_.1 x_.2.1 x_.2.2) (B := fun kx_ x_ => spec_l7Plan_B1 N kx1 (fun v71 v8 v61 => kx_ (v71, v8, v61)) x_.1 x_.2.1 x_.2.2) (fun _ _ => rfl) (fun j_ => (v71 j_, v8 j_, v61 j_)) n_ (fun j_ hi_ kx_ => hstep_ j_ hi_ _) (fun kx_ => hend_ _) fu_ hm_
def spec_l7Plan_K2 (N : Nat) : Option (Bool × Unit) :=
  some (true, ())
def spec_l7Plan_B2 (N : Nat) (kx1 : Int → (List (List Int)) → Option (Bool × Unit)) (v7 : Int) (v6 : List (List Int)) : Option (Bool × Unit) :=
  bif ilt v7 (len v6) then
    spec_l7Plan_L1 N N kx1 v7 0 v6
  else
    spec_l7Plan_K2 N
def spec_l7Plan_L2 (N fu_ : Nat) (v7 : Int) (v6 : List (List Int)) : Option (Bool × Unit) :=
  iterK fu_ (fun kx1 (v_ : (Int × Unit) × ((List (List Int)) × Unit)) => spec_l7Plan_B2 N (fun v7 v6 => kx1 ((v7, ()), (v6, ()))) v_.1.1 v_.2.1) ((v7, ()), (v6, ()))
theorem spec_l7Plan_L2_succ (N fu_ : Nat) (v7 : Int) (v6 : List (List Int)) : spec_l7Plan_L2 N (fu_ + 1) v7 v6 = spec_l7Plan_B2 N (fun v7 v6 => spec_l7Plan_L2 N fu_ v7 v6) v7 v6 := rfl
theorem spec_l7Plan_L2_run (N : Nat) (v7 : Nat → Int) (v6 : Nat → (List (List Int))) (n_ : Nat) {res_ : Option (Bool × Unit)} (hstep_ : ∀ j_, j_ < n_ → ∀ kx_, spec_l7Plan_B2 N kx_ (v7 j_) (v6 j_) = kx_ (v7 (j_ + 1)) (v6 (j_ + 1))) (hend_ : ∀ kx_, spec_l7Plan_B2 N kx_ (v7 n_) (v6 n_) = res_) (fu_ : Nat) (hm_ : n_ < fu_) : spec_l7Plan_L2 N fu_ (v7 0) (v6 0) = res_ := by
  exact loop_run (L := fun fu_ (x_ : Int × (List (List Int))) => spec_l7Plan_L2 N fu_ x_.1 x_.2) (B := fun kx_ x_ => spec_l7Plan_B2 N (fun v7 v6 => kx_ (v7, v6)) x_.1 x_.2) (fun _ _ => rfl) (fun j_ => (v7 j_, v6 j_)) n_ (fun j_ hi_ kx_ => hstep_ j_ hi_ _) (fun kx_ => hend_ _) fu_ hm_
def spec_l7Plan_K3 (N : Nat) (v12 : List (List Int)) (v21 : (List Int) × (List Int) × (List Int)) : Option (Bool × Unit) :=
  (spec_l7Stocks N v21 v12).bind fun r1 =>
  spec_l7Plan_L2 N N 0 r1.1
def spec_l7Plan_B3 (N : Nat) (kx : (List (List Int)) → Int → ((List Int) × (List Int) × (List Int)) → Option (Bool × Unit)) (v11 : List (List Int)) (v5 : Int) (v2 : (List Int) × (List Int) × (List Int)) : Option (Bool × Unit) :=
  bif ilt v5 (len v11) then
    chk (inB v5 v11.length) <|
    (spec_l2Row N (gd v11 v5.toNat []) (len v2.1) 120).bind fun r =>
    bif !r.1 then
      some (false, ())
    else
      kx v11 (iadd .i64 v5 1) v2
  else
    spec_l7Plan_K3 N v11 v2
def spec_l7Plan_L3 (N fu_ : Nat) (v11 : List (List Int)) (v5 : Int) (v2 : (List Int) × (List Int) × (List Int)) : Option (Bool × Unit) :=
  iterK fu_ (fun kx (v_ : ((List (List Int)) × Int × Unit) × (((List Int) × (List Int) × (List Int)) × Unit)) => spec_l7Plan_B3 N (fun v11 v5 v2 => kx ((v11, v5, ()), (v2, ()))) v_.1.1 v_.1.2.1 v_.2.1) ((v11, v5, ()), (v2, ()))
theorem spec_l7Plan_L3_succ (N fu_ : Nat) (v11 : List (List Int)) (v5 : Int) (v2 : (List Int) × (List Int) × (List Int)) : spec_l7Plan_L3 N (fu_ + 1) v11 v5 v2 = spec_l7Plan_B3 N (fun v11 v5 v2 => spec_l7Plan_L3 N fu_ v11 v5 v2) v11 v5 v2 := rfl
theorem spec_l7Plan_L3_run (N : Nat) (v11 : Nat → (List (List Int))) (v5 : Nat → Int) (v2 : Nat → ((List Int) × (List Int) × (List Int))) (n_ : Nat) {res_ : Option (Bool × Unit)} (hstep_ : ∀ j_, j_ < n_ → ∀ kx_, spec_l7Plan_B3 N kx_ (v11 j_) (v5 j_) (v2 j_) = kx_ (v11 (j_ + 1)) (v5 (j_ + 1)) (v2 (j_ + 1))) (hend_ : ∀ kx_, spec_l7Plan_B3 N kx_ (v11 n_) (v5 n_) (v2 n_) = res_) (fu_ : Nat) (hm_ : n_ < fu_) : spec_l7Plan_L3 N fu_ (v11 0) (v5 0) (v2 0) = res_ := by
  exact loop_run (L := fun fu_ (x_ : (List (List Int)) × Int × ((List Int) × (List Int) × (List Int))) => spec_l7Plan_L3 N fu_ x_.1 x_.2.1 x_.2.2) (B := fun kx_ x_ => spec_l7Plan_B3 N (fun v11 v5 v2 => kx_ (v11, v5, v2)) x_.1 x_.2.1 x_.2.2) (fun _ _ => rfl) (fun j_ => (v11 j_, v5 j_, v2 j_)) n_ (fun j_ hi_ kx_ => hstep_ j_ hi_ _) (fun kx_ => hend_ _) fu_ hm_
def spec_l7Plan (N : Nat) (app : (List Int) × (List Int) × (List Int)) (v1 : List (List Int)) : Option (Bool × Unit) :=
  bif ine (len v1) (len app.2.1) then
    some (false, ())
  else
    spec_l7Plan_L3 N N v1 0 app
def spec_l7Two (N : Nat) (c : (List Int) × (List Int) × (List Int)) (plan : List (List Int)) : Option (Bool × Unit) :=
  (spec_l7Good N c).bind fun r =>
  bif r.1 then
    (spec_l7Plan N c plan).bind fun r1 =>
    some (r1.1, ())
  else
    some (false, ())
def spec_l7Cost_K1 (N : Nat) (kx : (List (List Int)) → Int → Int → ((List Int) × (List Int) × (List Int)) → (List (List Int)) → Option (Int × Unit)) (plan3 : List (List Int)) (sum2 : Int) (s2 : Int) (c3 : (List Int) × (List Int) × (List Int)) (stocks2 : List (List Int)) : Option (Int × Unit) :=
  kx plan3 sum2 (iadd .i64 s2 1) c3 stocks2
def spec_l7Cost_B1 (N : Nat) (kx : (List (List Int)) → Int → Int → ((List Int) × (List Int) × (List Int)) → (List (List Int)) → Option (Int × Unit)) (kx1 : (List (List Int)) → Int → Int → Int → ((List Int) × (List Int) × (List Int)) → (List (List Int)) → Option (Int × Unit)) (plan2 : List (List Int)) (sum1 : Int) (s1 : Int) (t : Int) (c2 : (List Int) × (List Int) × (List Int)) (stocks1 : List (List Int)) : Option (Int × Unit) :=
  bif ilt t (len c2.1) then
    chk (inB s1 c2.2.2.length) <|
    chk (inB s1 stocks1.length) <|
    chk (inB t (gd stocks1 s1.toNat []).length) <|
    chk (inB s1 plan2.length) <|
    chk (inB t (gd plan2 s1.toNat []).length) <|
    bif ilt 0 (gd (gd plan2 s1.toNat []) t.toNat 0) then
      chk (inB s1 c2.2.1.length) <|
      kx1 plan2 (iadd .i64 (iadd .i64 sum1 (imul .i64 (gd c2.2.2 s1.toNat 0) (gd (gd stocks1 s1.toNat []) t.toNat 0))) (gd c2.2.1 s1.toNat 0)) s1 (iadd .i64 t 1) c2 stocks1
    else
      kx1 plan2 (iadd .i64 sum1 (imul .i64 (gd c2.2.2 s1.toNat 0) (gd (gd stocks1 s1.toNat []) t.toNat 0))) s1 (iadd .i64 t 1) c2 stocks1
  else
    spec_l7Cost_K1 N kx plan2 sum1 s1 c2 stocks1
def spec_l7Cost_L1 (N fu_ : Nat) (kx : (List (List Int)) → Int → Int → ((List Int) × (List Int) × (List Int)) → (List (List Int)) → Option (Int × Unit)) (plan2 : List (List Int)) (sum1 : Int) (s1 : Int) (t : Int) (c2 : (List Int) × (List Int) × (List Int)) (stocks1 : List (List Int)) : Option (Int × Unit) :=
  iterK fu_ (fun kx1 (v_ : ((List (List Int)) × Int × Int × Int × Unit) × (((List Int) × (List Int) × (List Int)) × (List (List Int)) × Unit)) => spec_l7Cost_B1 N kx (fun plan2 sum1 s1 t c2 stocks1 => kx1 ((plan2, sum1, s1, t, ()), (c2, stocks1, ()))) v_.1.1 v_.1.2.1 v_.1.2.2.1 v_.1.2.2.2.1 v_.2.1 v_.2.2.1) ((plan2, sum1, s1, t, ()), (c2, stocks1, ()))
theorem spec_l7Cost_L1_succ (N fu_ : Nat) (kx : (List (List Int)) → Int → Int → ((List Int) × (List Int) × (List Int)) → (List (List Int)) → Option (Int × Unit)) (plan2 : List (List Int)) (sum1 : Int) (s1 : Int) (t : Int) (c2 : (List Int) × (List Int) × (List Int)) (stocks1 : List (List Int)) : spec_l7Cost_L1 N (fu_ + 1) kx plan2 sum1 s1 t c2 stocks1 = spec_l7Cost_B1 N kx (fun plan2 sum1 s1 t c2 stocks1 => spec_l7Cost_L1 N fu_ kx plan2 sum1 s1 t c2 stocks1) plan2 sum1 s1 t c2 stocks1 := rfl
theorem spec_l7Cost_L1_run (N : Nat) (kx : (List (List Int)) → Int → Int → ((List Int) × (List Int) × (List Int)) → (List (List Int)) → Option (Int × Unit)) (plan2 : Nat → (List (List Int))) (sum1 : Nat → Int) (s1 : Nat → Int) (t : Nat → Int) (c2 : Nat → ((List Int) × (List Int) × (List Int))) (stocks1 : Nat → (List (List Int))) (n_ : Nat) {res_ : Option (Int × Unit)} (hstep_ : ∀ j_, j_ < n_ → ∀ kx_, spec_l7Cost_B1 N kx kx_ (plan2 j_) (sum1 j_) (s1 j_) (t j_) (c2 j_) (stocks1 j_) = kx_ (plan2 (j_ + 1)) (sum1 (j_ + 1)) (s1 (j_ + 1)) (t (j_ + 1)) (c2 (j_ + 1)) (stocks1 (j_ + 1))) (hend_ : ∀ kx_, spec_l7Cost_B1 N kx kx_ (plan2 n_) (sum1 n_) (s1 n_) (t n_) (c2 n_) (stocks1 n_) = res_) (fu_ : Nat) (hm_ : n_ < fu_) : spec_l7Cost_L1 N fu_ kx (plan2 0) (sum1 0) (s1 0) (t 0) (c2 0) (stocks1 0) = res_ := by
  exact loop_run (L := fun fu_ (x_ : (List (List Int)) × Int × Int × Int × ((List Int) × (List Int) × (List Int)) × (List (List Int))) => spec_l7Cost_L1 N fu_ kx x_.1 x_.2.1 x_.2.2.1 x_.2.2.2.1 x_.2.2.2.2.1 x_.2.2.2.2.2) (B := fun kx_ x_ => spec_l7Cost_B1 N kx (fun plan2 sum1 s1 t c2 stocks1 => kx_ (plan2, sum1, s1, t, c2, stocks1)) x_.1 x_.2.1 x_.2.2.1 x_.2.2.2.1 x_.2.2.2.2.1 x_.2.2.2.2.2) (fun _ _ => rfl) (fun j_ => (plan2 j_, sum1 j_, s1 j_, t j_, c2 j_, stocks1 j_)) n_ (fun j_ hi_ kx_ => hstep_ j_ hi_ _) (fun kx_ => hend_ _) fu_ hm_
def spec_l7Cost_K2 (N : Nat) (sum3 : Int) : Option (Int × Unit) :=
  some (sum3, ())
def spec_l7Cost_B2 (N : Nat) (kx : (List (List Int)) → Int → Int → ((List Int) × (List Int) × (List Int)) → (List (List Int)) → Option (Int × Unit)) (plan1 : List (List Int)) (sum : Int) (s : Int) (c1 : (List Int) × (List Int) × (List Int)) (stocks : List (List Int)) : Option (Int × Unit) :=
  bif ilt s (len plan1) then
    spec_l7Cost_L1 N N kx plan1 sum s 0 c1 stocks
  else
    spec_l7Cost_K2 N sum
def spec_l7Cost_L2 (N fu_ : Nat) (plan1 : List (List Int)) (sum : Int) (s : Int) (c1 : (List Int) × (List Int) × (List Int)) (stocks : List (List Int)) : Option (Int × Unit) :=
  iterK fu_ (fun kx (v_ : ((List (List Int)) × Int × Int × Unit) × (((List Int) × (List Int) × (List Int)) × (List (List Int)) × Unit)) => spec_l7Cost_B2 N (fun plan1 sum s c1 stocks => kx ((plan1, sum, s, ()), (c1, stocks, ()))) v_.1.1 v_.1.2.1 v_.1.2.2.1 v_.2.1 v_.2.2.1) ((plan1, sum, s, ()), (c1, stocks, ()))
theorem spec_l7Cost_L2_succ (N fu_ : Nat) (plan1 : List (List Int)) (sum : Int) (s : Int) (c1 : (List Int) × (List Int) × (List Int)) (stocks : List (List Int)) : spec_l7Cost_L2 N (fu_ + 1) plan1 sum s c1 stocks = spec_l7Cost_B2 N (fun plan1 sum s c1 stocks => spec_l7Cost_L2 N fu_ plan1 sum s c1 stocks) plan1 sum s c1 stocks := rfl
theorem spec_l7Cost_L2_run (N : Nat) (plan1 : Nat → (List (List Int))) (sum : Nat → Int) (s : Nat → Int) (c1 : Nat → ((List Int) × (List Int) × (List Int))) (stocks : Nat → (List (List Int))) (n_ : Nat) {res_ : Option (Int × Unit)} (hstep_ : ∀ j_, j_ < n_ → ∀ kx_, spec_l7Cost_B2 N kx_ (plan1 j_) (sum j_) (s j_) (c1 j_) (stocks j_) = kx_ (plan1 (j_ + 1)) (sum (j_ + 1)) (s (j_ + 1)) (c1 (j_ + 1)) (stocks (j_ + 1))) (hend_ : ∀ kx_, spec_l7Cost_B2 N kx_ (plan1 n_) (sum n_) (s n_) (c1 n_) (stocks n_) = res_) (fu_ : Nat) (hm_ : n_ < fu_) : spec_l7Cost_L2 N fu_ (plan1 0) (sum 0) (s 0) (c1 0) (stocks 0) = res_ := by
  exact loop_run (L := fun fu_ (x_ : (List (List Int)) × Int × Int × ((List Int) × (List Int) × (List Int)) × (List (List Int))) => spec_l7Cost_L2 N fu_ x_.1 x_.2.1 x_.2.2.1 x_.2.2.2.1 x_.2.2.2.2) (B := fun kx_ x_ => spec_l7Cost_B2 N (fun plan1 sum s c1 stocks => kx_ (plan1, sum, s, c1, stocks)) x_.1 x_.2.1 x_.2.2.1 x_.2.2.2.1 x_.2.2.2.2) (fun _ _ => rfl) (fun j_ => (plan1 j_, sum j_, s j_, c1 j_, stocks j_)) n_ (fun j_ hi_ kx_ => hstep_ j_ hi_ _) (fun kx_ => hend_ _) fu_ hm_
def spec_l7Cost (N : Nat) (c : (List Int) × (List Int) × (List Int)) (plan : List (List Int)) : Option (Int × Unit) :=
  (spec_l7Stocks N c plan).bind fun r =>
  spec_l7Cost_L2 N N plan 0 0 c r.1
def spec_ChainCost (N : Nat) (c : (List Int) × (List Int) × (List Int)) (plan : List (List Int)) : Option ((Int × Bool) × Unit) :=
  (spec_l7Two N c plan).bind fun r =>
  bif !r.1 then
    some ((0, false), ())
  else
    (spec_l7Cost N c plan).bind fun r1 =>
    some ((r1.1, true), ())
def laws_toIntS_K1 (N : Nat) (out1 : List Int) : Option ((List Int) × Unit) :=
  some (out1, ())
def laws_toIntS_B1 (N : Nat) (kx : (List Int) → Int → (List Int) → Option ((List Int) × Unit)) (a1 : List Int) (i : Int) (out : List Int) : Option ((List Int) × Unit) :=
  bif ilt i (len a1) then
    chk (inB i a1.length) <|
    chk (inB i out.length) <|
    kx a1 (iadd .i64 i 1) (List.set out i.toNat (gd a1 i.toNat 0))
  else
    laws_toIntS_K1 N out
def laws_toIntS_L1 (N fu_ : Nat) (a1 : List Int) (i : Int) (out : List Int) : Option ((List Int) × Unit) :=
  iterK fu_ (fun kx (v_ : ((List Int) × Int × Unit) × ((List Int) × Unit)) => laws_toIntS_B1 N (fun a1 i out => kx ((a1, i, ()), (out, ()))) v_.1.1 v_.1.2.1 v_.2.1) ((a1, i, ()), (out, ()))
theorem laws_toIntS_L1_succ (N fu_ : Nat) (a1 : List Int) (i : Int) (out : List Int) : laws_toIntS_L1 N (fu_ + 1) a1 i out = laws_toIntS_B1 N (fun a1 i out => laws_toIntS_L1 N fu_ a1 i out) a1 i out := rfl
theorem laws_toIntS_L1_run (N : Nat) (a1 : Nat → (List Int)) (i : Nat → Int) (out : Nat → (List Int)) (n_ : Nat) {res_ : Option ((List Int) × Unit)} (hstep_ : ∀ j_, j_ < n_ → ∀ kx_, laws_toIntS_B1 N kx_ (a1 j_) (i j_) (out j_) = kx_ (a1 (j_ + 1)) (i (j_ + 1)) (out (j_ + 1))) (hend_ : ∀ kx_, laws_toIntS_B1 N kx_ (a1 n_) (i n_) (out n_) = res_) (fu_ : Nat) (hm_ : n_ < fu_) : laws_toIntS_L1 N fu_ (a1 0) (i 0) (out 0) = res_ := by
  exact loop_run (L := fun fu_ (x_ : (List Int) × Int × (List Int)) => laws_toIntS_L1 N fu_ x_.1 x_.2.1 x_.2.2) (B := fun kx_ x_ => laws_toIntS_B1 N (fun a1 i out => kx_ (a1, i, out)) x_.1 x_.2.1 x_.2.2) (fun _ _ => rfl) (fun j_ => (a1 j_, i j_, out j_)) n_ (fun j_ hi_ kx_ => hstep_ j_ hi_ _) (fun kx_ => hend_ _) fu_ hm_
def laws_toIntS (N : Nat) (a : List Int) : Option ((List Int) × Unit) :=
  chk (mkB (len a) 8) <|
  laws_toIntS_L1 N N a 0 (List.replicate (len a).toNat 0)
def laws_toChain (N : Nat) (a : (List Int) × (List Int) × (List Int)) : Option (((List Int) × (List Int) × (List Int)) × Unit) :=
  (laws_toIntS N a.1).bind fun r =>
  (laws_toIntS N a.2.1).bind fun r1 =>
  (laws_toIntS N a.2.2).bind fun r2 =>
  some ((r.1, (r1.1, r2.1)), ())
def laws_toIntSS_K1 (N : Nat) (out1 : List (List Int)) : Option ((List (List Int)) × Unit) :=
  some (out1, ())
def laws_toIntSS_B1 (N : Nat) (kx : (List (List Int)) → Int → (List (List Int)) → Option ((List (List Int)) × Unit)) (a1 : List (List Int)) (i : Int) (out : List (List Int)) : Option ((List (List Int)) × Unit) :=
  bif ilt i (len a1) then
    chk (inB i a1.length) <|
    (laws_toIntS N (gd a1 i.toNat [])).bind fun r =>
    chk (inB i out.length) <|
    kx a1 (iadd .i64 i 1) (List.set out i.toNat r.1)
  else
    laws_toIntSS_K1 N out
def laws_toIntSS_L1 (N fu_ : Nat) (a1 : List (List Int)) (i : Int) (out : List (List Int)) : Option ((List (List Int)) × Unit) :=
  iterK fu_ (fun kx (v_ : ((List (List Int)) × Int × Unit) × ((List (List Int)) × Unit)) => laws_toIntSS_B1 N (fun a1 i out => kx ((a1, i, ()), (out, ()))) v_.1.1 v_.1.2.1 v_.2.1) ((a1, i, ()), (out, ()))
theorem laws_toIntSS_L1_succ (N fu_ : Nat) (a1 : List (List Int)) (i : Int) (out : List (List Int)) : laws_toIntSS_L1 N (fu_ + 1) a1 i out = laws_toIntSS_B1 N (fun a1 i out => laws_toIntSS_L1 N fu_ a1 i out) a1 i out := rfl
theorem laws_toIntSS_L1_run (N : Nat) (a1 : Nat → (List (List Int))) (i : Nat → Int) (out : Nat → (List (List Int))) (n_ : Nat) {res_ : Option ((List (List Int)) × Unit)} (hstep_ : ∀ j_, j_ < n_ → ∀ kx_, laws_toIntSS_B1 N kx_ (a1 j_) (i j_) (out j_) = kx_ (a1 (j_ + 1)) (i (j_ + 1)) (out (j_ + 1))) (hend_ : ∀ kx_, laws_toIntSS_B1 N kx_ (a1 n_) (i n_) (out n_) = res_) (fu_ : Nat) (hm_ : n_ < fu_) : laws_toIntSS_L1 N fu_ (a1 0) (i 0) (out 0) = res_ := by
  exact loop_run (L := fun fu_ (x_ : (List (List Int)) × Int × (List (List Int))) => laws_toIntSS_L1 N fu_ x_.1 x_.2.1 x_.2.2) (B := fun kx_ x_ => laws_toIntSS_B1 N (fun a1 i out => kx_ (a1, i, out)) x_.1 x_.2.1 x_.2.2) (fun _ _ => rfl) (fun j_ => (a1 j_, i j_, out j_)) n_ (fun j_ hi_ kx_ => hstep_ j_ hi_ _) (fun kx_ => hend_ _) fu_ hm_
def laws_toIntSS (N : Nat) (a : List (List Int)) : Option ((List (List Int)) × Unit) :=
  chk (mkB (len a) 24) <|
  laws_toIntSS_L1 N N a 0 (List.replicate (len a).toNat [])
def impl_within (N : Nat) (n : Int) (low : Int) (high : Int) : Option (Bool × Unit) :=
  bif ile low n then
    some (ile n high, ())
  else
    some (false, ())
def impl_allWithin_K1 (N : Nat) : Option (Bool × Unit) :=
  some (true, ())
def impl_allWithin_B1 (N : Nat) (kx : Int → Int → (List Int) → Int → Int → Option (Bool × Unit)) (low1 : Int) (high1 : Int) (v9 : List Int) (v10 : Int) (v11 : Int) : Option (Bool × Unit) :=
  bif ilt v11 v10 then
    chk (inB v11 v9.length) <|
    (impl_within N (gd v9 v11.toNat 0) low1 high1).bind fun r =>
    bif !r.1 then
      some (false, ())
    else
      kx low1 high1 v9 v10 (iadd .i64 v11 1)
  else
    impl_allWithin_K1 N
def impl_allWithin_L1 (N fu_ : Nat) (low1 : Int) (high1 : Int) (v9 : List Int) (v10 : Int) (v11 : Int) : Option (Bool × Unit) :=
  iterK fu_ (fun kx (v_ : (Int × Int × (List Int) × Int × Int × Unit) × (Unit)) => impl_allWithin_B1 N (fun low1 high1 v9 v10 v11 => kx ((low1, high1, v9, v10, v11, ()), ())) v_.1.1 v_.1.2.1 v_.1.2.2.1 v_.1.2.2.2.1 v_.1.2.2.2.2.1) ((low1, high1, v9, v10, v11, ()), ())
theorem impl_allWithin_L1_succ (N fu_ : Nat) (low1 : Int) (high1 : Int) (v9 : List Int) (v10 : Int) (v11 : Int) : impl_allWithin_L1 N (fu_ + 1) low1 high1 v9 v10 v11 = impl_allWithin_B1 N (fun low1 high1 v9 v10 v11 => impl_allWithin_L1 N fu_ low1 high1 v9 v10 v11) low1 high1 v9 v10 v11 := rfl
theorem impl_allWithin_L1_run (N : Nat) (low1 : Nat → Int) (high1 : Nat → Int) (v9 : Nat → (List Int)) (v10 : Nat → Int) (v11 : Nat → Int) (n_ : Nat) {res_ : Option (Bool × Unit)} (hstep_ : ∀ j_, j_ < n_ → ∀ kx_, impl_allWithin_B1 N kx_ (low1 j_) (high1 j_) (v9 j_) (v10 j_) (v11 j_) = kx_ (low1 (j_ + 1)) (high1 (j_ + 1)) (v9 (j_ + 1)) (v10 (j_ + 1)) (v11 (j_ + 1))) (hend_ : ∀ kx_, impl_allWithin_B1 N kx_ (low1 n_) (high1 n_) (v9 n_) (v10 n_) (v11 n_) = res_) (fu_ : Nat) (hm_ : n_ < fu_) : impl_allWithin_L1 N fu_ (low1 0) (high1 0) (v9 0) (v10 0) (v11 0) = res_ := by
  exact loop_run (L := fun fu_ (x_ : Int × Int × (List Int) × Int × Int) => impl_allWithin_L1 N fu_ x_.1 x_.2.1 x_.2.2.1 x_.2.2.2.1 x_.2.2.2.2) (B := fun kx_ x_ => impl_allWithin_B1 N (fun low1 high1 v9 v10 v11 => kx_ (low1, high1, v9, v10, v11)) x_.1 x_.2.1 x_.2.2.1 x_.2.2.2.1 x_.2.2.2.2) (fun _ _ => rfl) (fun j_ => (low1 j_, high1 j_, v9 j_, v10 j_, v11 j_)) n_ (fun j_ hi_ kx_ => hstep_ j_ hi_ _) (fun kx_ => hend_ _) fu_ hm_
def impl_allWithin (N : Nat) (list : List Int) (low : Int) (high : Int) : Option (Bool × Unit) :=
  impl_allWithin_L1 N N low high list (len list) 0
def cmp_isNaN_int (N : Nat) (x : Int) : Option (Bool × Unit) :=
  some (ine x x, ())
def cmp_Less_int (N : Nat) (x : Int) (y : Int) : Option (Bool × Unit) :=
  (cmp_isNaN_int N x).bind fun r =>
  bif r.1 then
    (cmp_isNaN_int N y).bind fun r1 =>
    bif !r1.1 then
      some (true, ())
    else
      some (ilt x y, ())
  else
    some (ilt x y, ())
def slices_IsSorted_int_int_K1 (N : Nat) : Option (Bool × Unit) :=
  some (true, ())
def slices_IsSorted_int_int_B1 (N : Nat) (kx : (List Int) → Int → Option (Bool × Unit)) (x1 : List Int) (i : Int) : Option (Bool × Unit) :=
  bif ilt 0 i then
    chk (inB i x1.length) <|
    chk (inB (isub .i64 i 1) x1.length) <|
    (cmp_Less_int N (gd x1 i.toNat 0) (gd x1 (isub .i64 i 1).toNat 0)).bind fun r =>
    bif r.1 then
      some (false, ())
    else
      kx x1 (isub .i64 i 1)
  else
    slices_IsSorted_int_int_K1 N
def slices_IsSorted_int_int_L1 (N fu_ : Nat) (x1 : List Int) (i : Int) : Option (Bool × Unit) :=
  iterK fu_ (fun kx (v_ : ((List Int) × Int × Unit) × (Unit)) => slices_IsSorted_int_int_B1 N (fun x1 i => kx ((x1, i, ()), ())) v_.1.1 v_.1.2.1) ((x1, i, ()), ())
theorem slices_IsSorted_int_int_L1_succ (N fu_ : Nat) (x1 : List Int) (i : Int) : slices_IsSorted_int_int_L1 N (fu_ + 1) x1 i = slices_IsSorted_int_int_B1 N (fun x1 i => slices_IsSorted_int_int_L1 N fu_ x1 i) x1 i := rfl
theorem slices_IsSorted_int_int_L1_run (N : Nat) (x1 : Nat → (List Int)) (i : Nat → Int) (n_ : Nat) {res_ : Option (Bool × Unit)} (hstep_ : ∀ j_, j_ < n_ → ∀ kx_, slices_IsSorted_int_int_B1 N kx_ (x1 j_) (i j_) = kx_ (x1 (j_ + 1)) (i (j_ + 1))) (hend_ : ∀ kx_, slices_IsSorted_int_int_B1 N kx_ (x1 n_) (i n_) = res_) (fu_ : Nat) (hm_ : n_ < fu_) : slices_IsSorted_int_int_L1 N fu_ (x1 0) (i 0) = res_ := by
  exact loop_run (L := fun fu_ (x_ : (List Int) × Int) => slices_IsSorted_int_int_L1 N fu_ x_.1 x_.2) (B := fun kx_ x_ => slices_IsSorted_int_int_B1 N (fun x1 i => kx_ (x1, i)) x_.1 x_.2) (fun _ _ => rfl) (fun j_ => (x1 j_, i j_)) n_ (fun j_ hi_ kx_ => hstep_ j_ hi_ _) (fun kx_ => hend_ _) fu_ hm_
def slices_IsSorted_int_int (N : Nat) (x : List Int) : Option (Bool × Unit) :=
  slices_IsSorted_int_int_L1 N N x (isub .i64 (len x) 1)
def impl_IsChain (N : Nat) (c : (List Int) × (List Int) × (List Int)) : Option (Bool × Unit) :=
  bif ile (len c.1) 6 then
    (impl_allWithin N c.1 0 20).bind fun r =>
    bif r.1 then
      (impl_within N (len c.2.1) 1 3).bind fun r1 =>
      bif r1.1 then
        bif ieq (len c.2.2) (len c.2.1) then
          (impl_allWithin N c.2.1 0 99).bind fun r2 =>
          bif r2.1 then
            (impl_allWithin N c.2.2 0 9).bind fun r3 =>
            bif r3.1 then
              (slices_IsSorted_int_int N c.2.2).bind fun r4 =>
              some (r4.1, ())
            else
              some (false, ())
          else
            some (false, ())
        else
          some (false, ())
      else
        some (false, ())
    else
      some (false, ())
  else
    some (false, ())
def impl_Chain_stocks_K1 (N : Nat) (kx : (List (List Int)) → (List (List Int)) → Int → Int → ((List Int) × (List Int) × (List Int)) → (List (List Int)) → Option (((List (List Int)) × Bool) × Unit)) (v14 : List (List Int)) (v112 : Int) (v213 : List (List Int)) (v223 : Int) (v233 : Int) (v471 : List Int) (v481 : Int) (v501 : List Int) (v511 : Int) (v521 : Bool) (v551 : List Int) (v561 : Bool) (v571 : Bool) (v601 : List Int) (v612 : Bool) (v621 : Bool) (v26 : (List Int) × (List Int) × (List Int)) (v64 : List (List Int)) (v101 : List Int) : Option (((List (List Int)) × Bool) × Unit) :=
  bif ine v112 0 then
    some (([], false), ())
  else
    chk (fitB (v64.length + 1) 24) <|
    kx v14 v213 v223 (iadd .i64 v233 1) v26 (v64 ++ [v101])
def impl_Chain_stocks_B1 (N : Nat) (kx : (List (List Int)) → (List (List Int)) → Int → Int → ((List Int) × (List Int) × (List Int)) → (List (List Int)) → Option (((List (List Int)) × Bool) × Unit)) (kx1 : (List (List Int)) → (List Int) → Int → (List (List Int)) → Int → Int → (List Int) → Int → (List Int) → Int → Bool → (List Int) → Bool → Bool → (List Int) → Bool → Bool → (List Int) → Int → Int → ((List Int) × (List Int) × (List Int)) → (List (List Int)) → (List Int) → Option (((List (List Int)) × Bool) × Unit)) (v13 : List (List Int)) (v91 : List Int) (v111 : Int) (v212 : List (List Int)) (v222 : Int) (v232 : Int) (v47 : List Int) (v48 : Int) (v50 : List Int) (v51 : Int) (v52 : Bool) (v55 : List Int) (v56 : Bool) (v57 : Bool) (v60 : List Int) (v611 : Bool) (v62 : Bool) (v65 : List Int) (v66 : Int) (v67 : Int) (v25 : (List Int) × (List Int) × (List Int)) (v63 : List (List Int)) (v10 : List Int) : Option (((List (List Int)) × Bool) × Unit) :=
  bif ilt v67 v66 then
    chk (inB v67 v65.length) <|
    chk (inB v67 v91.length) <|
    bif ilt (iadd .i64 v111 (isub .i64 (gd v65 v67.toNat 0) (gd v91 v67.toNat 0))) 0 then
      some (([], false), ())
    else
      chk (fitB (v10.length + 1) 8) <|
      kx1 v13 v91 (iadd .i64 v111 (isub .i64 (gd v65 v67.toNat 0) (gd v91 v67.toNat 0))) v212 v222 v232 v47 v48 v50 v51 v52 v55 v56 v57 v60 v611 v62 v65 v66 (iadd .i64 v67 1) v25 v63 (v10 ++ [iadd .i64 v111 (isub .i64 (gd v65 v67.toNat 0) (gd v91 v67.toNat 0))])
  else
    impl_Chain_stocks_K1 N kx v13 v111 v212 v222 v232 v47 v48 v50 v51 v52 v55 v56 v57 v60 v611 v62 v25 v63 v10
def impl_Chain_stocks_L1 (N fu_ : Nat) (kx : (List (List Int)) → (List (List Int)) → Int → Int → ((List Int) × (List Int) × (List Int)) → (List (List Int)) → Option (((List (List Int)) × Bool) × Unit)) (v13 : List (List Int)) (v91 : List Int) (v111 : Int) (v212 : List (List Int)) (v222 : Int) (v232 : Int) (v47 : List Int) (v48 : Int) (v50 : List Int) (v51 : Int) (v52 : Bool) (v55 : List Int) (v56 : Bool) (v57 : Bool) (v60 : List Int) (v611 : Bool) (v62 : Bool) (v65 : List Int) (v66 : Int) (v67 : Int) (v25 : (List Int) × (List Int) × (List Int)) (v63 : List (List Int)) (v10 : List Int) : Option (((List (List Int)) × Bool) × Unit) :=
  iterK fu_ (fun kx1 (v_ : ((List (List Int)) × (List Int) × Int × (List (List Int)) × Int × Int × (List Int) × Int × (List Int) × Int × Bool × (List Int) × Bool × Bool × (List Int) × Bool × Bool × (List Int) × Int × Int × Unit) × (((List Int) × (List Int) × (List Int)) × (List (List Int)) × (List Int) × Unit)) => impl_Chain_stocks_B1 N kx (fun v13 v91 v111 v212 v222 v232 v47 v48 v50 v51 v52 v55 v56 v57 v60 v611 v62 v65 v66 v67 v25 v63 v10 => kx1 ((v13, v91, v111, v212, v222, v232, v47, v48, v50, v51, v52, v55, v56, v57, v60, v611, v62, v65, v66, v67, ()), (v25, v63, v10, ()))) v_.1.1 v_.1.2.1 v_.1.2.2.1 v_.1.2.2.2.1 v_.1.2.2.2.2.1 v_.1.2.2.2.2.2.1 v_.1.2.2.2.2.2.2.1 v_.1.2.2.2.2.2.2.2.1 v_.1.2.2.2.2.2.2.2.2.1 v_.1.2.2.2.2.2.2.2.2.2.1 v_.1.2.2.2.2.2.2.2.2.2.2.1 v_.1.2.2.2.2.2.2.2.2.2.2.2.1 v_.1.2.2.2.2.2.2.2.2.2.2.2.2.1 v_.1.2.2.2.2.2.2.2.2.2.2.2.2.2.1 v_.1.2.2.2.2.2.2.2.2.2.2.2.2.2.2.1 v_.1.2.2.2.2.2.2.2.2.2.2.2.2.2.2.2.1 v_.1.2.2.2.2.2.2.2.2.2.2.2.2.2.2.2.2.1 v_.1.2.2.2.2.2.2.2.2.2.2.2.2.2.2.2.2.2.1 v_.1.2.2.2.2.2.2.2.2.2.2.2.2.2.2.2.2.2.2.1 v_.1.2.2.2.2.2.2.2.2.2.2.2.2.2.2.2.2.2.2.2.1 v_.2.1 v_.2.2.1 v_.2.2.2.1) ((v13, v91, v111, v212, v222, v232, v47, v48, v50, v51, v52, v55, v56, v57, v60, v611, v62, v65, v66, v67, ()), (v25, v63, v10, ()))
theorem impl_Chain_stocks_L1_succ (N fu_ : Nat) (kx : (List (List Int)) → (List (List Int)) → Int → Int → ((List Int) × (List Int) × (List Int)) → (List (List Int)) → Option (((List (List Int)) × Bool) × Unit)) (v13 : List (List Int)) (v91 : List Int) (v111 : Int) (v212 : List (List Int)) (v222 : Int) (v232 : Int) (v47 : List Int) (v48 : Int) (v50 : List Int) (v51 : Int) (v52 : Bool) (v55 : List Int) (v56 : Bool) (v57 : Bool) (v60 : List Int) (v611 : Bool) (v62 : Bool) (v65 : List Int) (v66 : Int) (v67 : Int) (v25 : (List Int) × (List Int) × (List Int)) (v63 : List (List Int)) (v10 : List Int) : impl_Chain_stocks_L1 N (fu_ + 1) kx v13 v91 v111 v212 v222 v232 v47 v48 v50 v51 v52 v55 v56 v57 v60 v611 v62 v65 v66 v67 v25 v63 v10 = impl_Chain_stocks_B1 N kx (fun v13 v91 v111 v212 v222 v232 v47 v48 v50 v51 v52 v55 v56 v57 v60 v611 v62 v65 v66 v67 v25 v63 v10 => impl_Chain_stocks_L1 N fu_ kx v13 v91 v111 v212 v222 v232 v47 v48 v50 v51 v52 v55 v56 v57 v60 v611 v62 v65 v66 v67 v25 v63 v10) v13 v91 v111 v212 v222 v232 v47 v48 v50 v51 v52 v55 v56 v57 v60 v611 v62 v65 v66 v67 v25 v63 v10 := rfl
theorem impl_Chain_stocks_L1_run (N : Nat) (kx : (List (List Int)) → (List (List Int)) → Int → Int → ((List Int) × (List Int) × (List Int)) → (List (List Int)) → Option (((List (List Int)) × Bool) × Unit)) (v13 : Nat → (List (List Int))) (v91 : Nat → (List Int)) (v111 : Nat → Int) (v212 : Nat → (List (List Int))) (v222 : Nat → Int) (v232 : Nat → Int) (v47 : Nat → (List Int)) (v48 : Nat → Int) (v50 : Nat → (List Int)) (v51 : Nat → Int) (v52 : Nat → Bool) (v55 : Nat → (List Int)) (v56 : Nat → Bool) (v57 : Nat → Bool) (v60 : Nat → (List Int)) (v611 : Nat → Bool) (v62 : Nat → Bool) (v65 : Nat → (List Int)) (v66 : Nat → Int) (v67 : Nat → Int) (v25 : Nat → ((List Int) × (List Int) × (List Int))) (v63 : Nat → (List (List Int))) (v10 : Nat → (List Int)) (n_ : Nat) {res_ : Option (((List (List Int)) × Bool) × Unit)} (hstep_ : ∀ j_, j_ < n_ → ∀ kx_, impl_Chain_stocks_B1 N kx kx_ (v13 j_) (v91 j_) (v111 j_) (v212 j_) (v222 j_) (v232 j_) (v47 j_) (v48 j_) (v50 j_) (v51 j_) (v52 j_) (v55 j_) (v56 j_) (v57 j_) (v60 j_) (v611 j_) (v62 j_) (v65 j_) (v66 j_) (v67 j_) (v25 j_) (v63 j_) (v10 j_) = kx_ (v13 (j_ + 1)) (v91 (j_ + 1)) (v111 (j_ + 1)) (v212 (j_ + 1)) (v222 (j_ + 1)) (v232 (j_ + 1)) (v47 (j_ + 1)) (v48 (j_ + 1)) (v50 (j_ + 1)) (v51 (j_ + 1)) (v52 (j_ + 1)) (v55 (j_ + 1)) (v56 (j_ + 1)) (v57 (j_ + 1)) (v60 (j_ + 1)) (v611 (j_ + 1)) (v62 (j_ + 1)) (v65 (j_ + 1)) (v66 (j_ + 1)) (v67 (j_ + 1)) (v25 (j_ + 1)) (v63 (j_ + 1)) (v10 (j_ + 1))) (hend_ : ∀ kx_, impl_Chain_stocks_B1 N kx kx_ (v13 n_) (v91 n_) (v111 n_) (v212 n_) (v222 n_) (v232 n_) (v47 n_) (v48 n_) (v50 n_) (v51 n_) (v52 n_) (v55 n_) (v56 n_) (v57 n_) (v60 n_) (v611 n_) (v62 n_) (v65 n_) (v66 n_) (v67 n_) (v25 n_) (v63 n_) (v10 n_) = res_) (fu_ : Nat) (hm_ : n_ < fu_) : impl_Chain_stocks_L1 N fu_ kx (v13 0) (v91 0) (v111 0) (v212 0) (v222 0) (v232 0) (v47 0) (v48 0) (v50 0) (v51 0) (v52 0) (v55 0) (v56 0) (v57 0) (v60 0) (v611 0) (v62 0) (v65 0) (v66 0) (v67 0) (v25 0) (v63 0) (v10 0) = res_ := by
  exact loop_run (L := fun fu_ (x_ : (List (List Int)) × (List Int) × Int × (List (List Int)) × Int × Int × (List Int) × Int × (List Int) × Int × Bool × (List Int) × Bool × Bool × (List Int) × Bool × Bool × (List Int) × Int × Int × ((List Int) × (List Int) × (List Int)) × (List (List Int)) × (List Int)) => impl_Chain_stocks_L1 N fu_ kx x_.1 x_.2.1 x_.2.2.1 x_.2.2.2.1 x_.2.2.2.2.1 x_.2.2.2.2.2.1 x_.2.2.2.2.2.2.1 x_.2.2.2.2.2.2.2.1 x_.2.2.2.2.2.2.2.2.1 x_.2.2.2.2.2.2.2.2.2.1 x_.2.2.2.2.2.2.2.2.2.2.1 x_.2.2.2.2.2.2.2.2.2.2.2.1 x_.2.2.2.2.2.2.2.2.2.2.2.2.1 x_.2.2.2.2.2.2.2.2.2.2.2.2.2.1 x_.2.2.2.2.2.2.2.2.2.2.2.2.2.2.1 x_.2.2.2.2.2.2.2.2.2.2.2.2.2.2.2.1 x_.2.2.2.2.2.2.2.2.2.2.2.2.2.2.2.2.1 x_.2.2.2.2.2.2.2.2.2.2.2.2.2.2.2.2.2.1 x_.2.2.2.2.2.2.2.2.2.2.2.2.2.2.2.2.2.2.1 x_.2.2.2.2.2.2.2.2.2.2.2.2.2.2.2.2.2.2.2.1 x_.2.2.2.2.2.2.2.2.2.2.2.2.2.2.2.2.2.2.2.2.1 x_.2.2.2.2.2.2.2.2.2.2.2.2.2.2.2.2.2.2.2.2.2.1 x_.2.2.2.2.2.2.2.2.2.2.2.2.2.2.2.2.2.2.2.2.2.2) (B := fun kx_ x_ => impl_Chain_stocks_B1 N kx (fun v13 v91 v111 v212 v222 v232 v47 v48 v50 v51 v52 v55 v56 v57 v60 v611 v62 v65 v66 v67 v25 v63 v10 => kx_ (v13, v91, v111, v212, v222, v232, v47, v48, v50, v51, v52, v55, v56, v57, v60, v611, v62, v65, v66, v67, v25, v63, v10)) x_.1 x_.2.1 x_.2.2.1 x_.2.2.2.1 x_.2.2.2.2.1 x_.2.2.2.2.2.1 x_.2.2.2.2.2.2.1 x_.2.2.2.2.2.2.2.1 x_.2.2.2.2.2.2.2.2.1 x_.2.2.2.2.2.2.2.2.2.1 x_.2.2.2.2.2.2.2.2.2.2.1 x_.2.2.2.2.2.2.2.2.2.2.2.1 x_.2.2.2.2.2.2.2.2.2.2.2.2.1 x_.2.2.2.2.2.2.2.2.2.2.2.2.2.1 x_.2.2.2.2.2.2.2.2.2.2.2.2.2.2.1 x_.2.2.2.2.2.2.2.2.2.2.2.2.2.2.2.1 x_.2.2.2.2.2.2.2.2.2.2.2.2.2.2.2.2.1 x_.2.2.2.2.2.2.2.2.2.2.2.2.2.2.2.2.2.1 x_.2.2.2.2.2.2.2.2.2.2.2.2.2.2.2.2.2.2.1 x_.2.2.2.2.2.2.2.2.2.2.2.2.2.2.2.2.2.2.2.1 x_.2.2.2.2.2.2.2.2.2.2.2.2.2.2.2.2.2.2.2.2.1 x_.2.2.2.2.2.2.2.2.2.2.2.2.2.2.2.2.2.2.2.2.2.1 x_.2.2.2.2.2.2.2.2.2.2.2.2.2.2.2.2.2.2.2.2.2.2) (fun _ _ => rfl) (fun j_ => (v13 j_, v91 j_, v111 j_, v212 j_, v222 j_, v232 j_, v47 j_, v48 j_, v50 j_, v51 j_, v52 j_, v55 j_, v56 j_, v57 j_, v60 j_, v611 j_, v62 j_, v65 j_, v66 j_, v67 j_, v25 j_, v63 j_, v10 j_)) n_ (fun j_ hi_ kx_ => hstep_ j_ hi_ _) (fun kx_ => hend_ _) fu_ hm_
def impl_Chain_stocks_K2 (N : Nat) (kx : (List (List Int)) → (List (List Int)) → Int → Int → ((List Int) × (List Int) × (List Int)) → (List (List Int)) → Option (((List (List Int)) × Bool) × Unit)) (v12 : List (List Int)) (v8 : List Int) (v9 : List Int) (v211 : List (List Int)) (v221 : Int) (v231 : Int) (v24 : (List Int) × (List Int) × (List Int)) (v61 : List (List Int)) : Option (((List (List Int)) × Bool) × Unit) :=
  bif ine (len v8) (len v24.1) then
    some (([], false), ())
  else
    bif ine (len v9) (len v24.1) then
      some (([], false), ())
    else
      (impl_allWithin N v8 0 120).bind fun r =>
      bif !r.1 then
        some (([], false), ())
      else
        (impl_allWithin N v9 0 120).bind fun r1 =>
        bif !r1.1 then
          some (([], false), ())
        else
          impl_Chain_stocks_L1 N N kx v12 v9 0 v211 v221 v231 v9 (len v9) v24.1 (len v24.1) (ine (len v9) (len v24.1)) v8 r.1 (!r.1) v9 r1.1 (!r1.1) v8 (len v8) 0 v24 v61 []
def impl_Chain_stocks_K3 (N : Nat) (v68 : List (List Int)) : Option (((List (List Int)) × Bool) × Unit) :=
  some ((v68, true), ())
def impl_Chain_stocks_B2 (N : Nat) (kx : (List (List Int)) → (List (List Int)) → Int → Int → ((List Int) × (List Int) × (List Int)) → (List (List Int)) → Option (((List (List Int)) × Bool) × Unit)) (v11 : List (List Int)) (v21 : List (List Int)) (v22 : Int) (v23 : Int) (v2 : (List Int) × (List Int) × (List Int)) (v6 : List (List Int)) : Option (((List (List Int)) × Bool) × Unit) :=
  bif ilt v23 v22 then
    chk (inB v23 v21.length) <|
    bif ilt (iadd .i64 v23 1) (len v11) then
      chk (inB (iadd .i64 v23 1) v11.length) <|
      impl_Chain_stocks_K2 N kx v11 (gd v21 v23.toNat []) (gd v11 (iadd .i64 v23 1).toNat []) v21 v22 v23 v2 v6
    else
      impl_Chain_stocks_K2 N kx v11 (gd v21 v23.toNat []) v2.1 v21 v22 v23 v2 v6
  else
    impl_Chain_stocks_K3 N v6
def impl_Chain_stocks_L2 (N fu_ : Nat) (v11 : List (List Int)) (v21 : List (List Int)) (v22 : Int) (v23 : Int) (v2 : (List Int) × (List Int) × (List Int)) (v6 : List (List Int)) : Option (((List (List Int)) × Bool) × Unit) :=
  iterK fu_ (fun kx (v_ : ((List (List Int)) × (List (List Int)) × Int × Int × Unit) × (((List Int) × (List Int) × (List Int)) × (List (List Int)) × Unit)) => impl_Chain_stocks_B2 N (fun v11 v21 v22 v23 v2 v6 => kx ((v11, v21, v22, v23, ()), (v2, v6, ()))) v_.1.1 v_.1.2.1 v_.1.2.2.1 v_.1.2.2.2.1 v_.2.1 v_.2.2.1) ((v11, v21, v22, v23, ()), (v2, v6, ()))
theorem impl_Chain_stocks_L2_succ (N fu_ : Nat) (v11 : List (List Int)) (v21 : List (List Int)) (v22 : Int) (v23 : Int) (v2 : (List Int) × (List Int) × (List Int)) (v6 : List (List Int)) : impl_Chain_stocks_L2 N (fu_ + 1) v11 v21 v22 v23 v2 v6 = impl_Chain_stocks_B2 N (fun v11 v21 v22 v23 v2 v6 => impl_Chain_stocks_L2 N fu_ v11 v21 v22 v23 v2 v6) v11 v21 v22 v23 v2 v6 := rfl
theorem impl_Chain_stocks_L2_run (N : Nat) (v11 : Nat → (List (List Int))) (v21 : Nat → (List (List Int))) (v22 : Nat → Int) (v23 : Nat → Int) (v2 : Nat → ((List Int) × (List Int) × (List Int))) (v6 : Nat → (List (List Int))) (n_ : Nat) {res_ : Option (((List (List Int)) × Bool) × Unit)} (hstep_ : ∀ j_, j_ < n_ → ∀ kx_, impl_Chain_stocks_B2 N kx_ (v11 j_) (v21 j_) (v22 j_) (v23 j_) (v2 j_) (v6 j_) = kx_ (v11 (j_ + 1)) (v21 (j_ + 1)) (v22 (j_ + 1)) (v23 (j_ + 1)) (v2 (j_ + 1)) (v6 (j_ + 1))) (hend_ : ∀ kx_, impl_Chain_stocks_B2 N kx_ (v11 n_) (v21 n_) (v22 n_) (v23 n_) (v2 n_) (v6 n_) = res_) (fu_ : Nat) (hm_ : n_ < fu_) : impl_Chain_stocks_L2 N fu_ (v11 0) (v21 0) (v22 0) (v23 0) (v2 0) (v6 0) = res_ := by
  exact loop_run (L := fun fu_ (x_ : (List (List Int)) × (List (List Int)) × Int × Int × ((List Int) × (List Int) × (List Int)) × (List (List Int))) => impl_Chain_stocks_L2 N fu_ x_.1 x_.2.1 x_.2.2.1 x_.2.2.2.1 x_.2.2.2.2.1 x_.2.2.2.2.2) (B := fun kx_ x_ => impl_Chain_stocks_B2 N (fun v11 v21 v22 v23 v2 v6 => kx_ (v11, v21, v22, v23, v2, v6)) x_.1 x_.2.1 x_.2.2.1 x_.2.2.2.1 x_.2.2.2.2.1 x_.2.2.2.2.2) (fun _ _ => rfl) (fun j_ => (v11 j_, v21 j_, v22 j_, v23 j_, v2 j_, v6 j_)) n_ (fun j_ hi_ kx_ => hstep_ j_ hi_ _) (fun kx_ => hend_ _) fu_ hm_
def impl_Chain_stocks (N : Nat) (app : (List Int) × (List Int) × (List Int)) (v1 : List (List Int)) : Option (((List (List Int)) × Bool) × Unit) :=
  bif ine (len v1) (len app.2.1) then
    some (([], false), ())
  else
    impl_Chain_stocks_L2 N N v1 v1 (len v1) 0 app []
def impl_linked (N : Nat) (c : (List Int) × (List Int) × (List Int)) (plan : List (List Int)) : Option (((List (List Int)) × Bool) × Unit) :=
  (impl_IsChain N c).bind fun r =>
  bif !r.1 then
    some (([], false), ())
  else
    (impl_Chain_stocks N c plan).bind fun r1 =>
    some ((r1.1.1, r1.1.2), ())
def impl_Chain_cost_K1 (N : Nat) (kx1 : Int → Int → (List (List Int)) → Int → Int → (List Int) → Int → Int → ((List Int) × (List Int) × (List Int)) → ((List (List Int)) × Bool) → Option (Int × Unit)) (sum2 : Int) (stage1 : Int) (i : Int) (v182 : List (List Int)) (v192 : Int) (v202 : Int) (v251 : List Int) (v261 : Int) (v271 : Int) (c3 : (List Int) × (List Int) × (List Int)) (b152 : (List (List Int)) × Bool) : Option (Int × Unit) :=
  chk (inB stage1 c3.2.2.length) <|
  chk (inB stage1 b152.1.length) <|
  chk (inB i (gd b152.1 stage1.toNat []).length) <|
  kx1 (iadd .i64 sum2 (imul .i64 (gd c3.2.2 stage1.toNat 0) (gd (gd b152.1 stage1.toNat []) i.toNat 0))) stage1 v182 v192 v202 v251 v261 (iadd .i64 v271 1) c3 b152
def impl_Chain_cost_K2 (N : Nat) (kx : Int → (List (List Int)) → Int → Int → ((List Int) × (List Int) × (List Int)) → ((List (List Int)) × Bool) → Option (Int × Unit)) (sum3 : Int) (v183 : List (List Int)) (v193 : Int) (v203 : Int) (c4 : (List Int) × (List Int) × (List Int)) (b153 : (List (List Int)) × Bool) : Option (Int × Unit) :=
  kx sum3 v183 v193 (iadd .i64 v203 1) c4 b153
def impl_Chain_cost_B1 (N : Nat) (kx : Int → (List (List Int)) → Int → Int → ((List Int) × (List Int) × (List Int)) → ((List (List Int)) × Bool) → Option (Int × Unit)) (kx1 : Int → Int → (List (List Int)) → Int → Int → (List Int) → Int → Int → ((List Int) × (List Int) × (List Int)) → ((List (List Int)) × Bool) → Option (Int × Unit)) (sum1 : Int) (stage : Int) (v181 : List (List Int)) (v191 : Int) (v201 : Int) (v25 : List Int) (v26 : Int) (v27 : Int) (c2 : (List Int) × (List Int) × (List Int)) (b151 : (List (List Int)) × Bool) : Option (Int × Unit) :=
  bif ilt v27 v26 then
    chk (inB v27 v25.length) <|
    bif ilt 0 (gd v25 v27.toNat 0) then
      chk (inB stage c2.2.1.length) <|
      impl_Chain_cost_K1 N kx1 (iadd .i64 sum1 (gd c2.2.1 stage.toNat 0)) stage v27 v181 v191 v201 v25 v26 v27 c2 b151
    else
      impl_Chain_cost_K1 N kx1 sum1 stage v27 v181 v191 v201 v25 v26 v27 c2 b151
  else
    impl_Chain_cost_K2 N kx sum1 v181 v191 v201 c2 b151
def impl_Chain_cost_L1 (N fu_ : Nat) (kx : Int → (List (List Int)) → Int → Int → ((List Int) × (List Int) × (List Int)) → ((List (List Int)) × Bool) → Option (Int × Unit)) (sum1 : Int) (stage : Int) (v181 : List (List Int)) (v191 : Int) (v201 : Int) (v25 : List Int) (v26 : Int) (v27 : Int) (c2 : (List Int) × (List Int) × (List Int)) (b151 : (List (List Int)) × Bool) : Option (Int × Unit) :=
  iterK fu_ (fun kx1 (v_ : (Int × Int × (List (List Int)) × Int × Int × (List Int) × Int × Int × Unit) × (((List Int) × (List Int) × (List Int)) × ((List (List Int)) × Bool) × Unit)) => impl_Chain_cost_B1 N kx (fun sum1 stage v181 v191 v201 v25 v26 v27 c2 b151 => kx1 ((sum1, stage, v181, v191, v201, v25, v26, v27, ()), (c2, b151, ()))) v_.1.1 v_.1.2.1 v_.1.2.2.1 v_.1.2.2.2.1 v_.1.2.2.2.2.1 v_.1.2.2.2.2.2.1 v_.1.2.2.2.2.2.2.1 v_.1.2.2.2.2.2.2.2.1 v_.2.1 v_.2.2.1) ((sum1, stage, v181, v191, v201, v25, v26, v27, ()), (c2, b151, ()))
theorem impl_Chain_cost_L1_succ (N fu_ : Nat) (kx : Int → (List (List Int)) → Int → Int → ((List Int) × (List Int) × (List Int)) → ((List (List Int)) × Bool) → Option (Int × Unit)) (sum1 : Int) (stage : Int) (v181 : List (List Int)) (v191 : Int) (v201 : Int) (v25 : List Int) (v26 : Int) (v27 : Int) (c2 : (List Int) × (List Int) × (List Int)) (b151 : (List (List Int)) × Bool) : impl_Chain_cost_L1 N (fu_ + 1) kx sum1 stage v181 v191 v201 v25 v26 v27 c2 b151 = impl_Chain_cost_B1 N kx (fun sum1 stage v181 v191 v201 v25 v26 v27 c2 b151 => impl_Chain_cost_L1 N fu_ kx sum1 stage v181 v191 v201 v25 v26 v27 c2 b151) sum1 stage v181 v191 v201 v25 v26 v27 c2 b151 := rfl
theorem impl_Chain_cost_L1_run (N : Nat) (kx : Int → (List (List Int)) → Int → Int → ((List Int) × (List Int) × (List Int)) → ((List (List Int)) × Bool) → Option (Int × Unit)) (sum1 : Nat → Int) (stage : Nat → Int) (v181 : Nat → (List (List Int))) (v191 : Nat → Int) (v201 : Nat → Int) (v25 : Nat → (List Int)) (v26 : Nat → Int) (v27 : Nat → Int) (c2 : Nat → ((List Int) × (List Int) × (List Int))) (b151 : Nat → ((List (List Int)) × Bool)) (n_ : Nat) {res_ : Option (Int × Unit)} (hstep_ : ∀ j_, j_ < n_ → ∀ kx_, impl_Chain_cost_B1 N kx kx_ (sum1 j_) (stage j_) (v181 j_) (v191 j_) (v201 j_) (v25 j_) (v26 j_) (v27 j_) (c2 j_) (b151 j_) = kx_ (sum1 (j_ + 1)) (stage (j_ + 1)) (v181 (j_ + 1)) (v191 (j_ + 1)) (v201 (j_ + 1)) (v25 (j_ + 1)) (v26 (j_ + 1)) (v27 (j_ + 1)) (c2 (j_ + 1)) (b151 (j_ + 1))) (hend_ : ∀ kx_, impl_Chain_cost_B1 N kx kx_ (sum1 n_) (stage n_) (v181 n_) (v191 n_) (v201 n_) (v25 n_) (v26 n_) (v27 n_) (c2 n_) (b151 n_) = res_) (fu_ : Nat) (hm_ : n_ < fu_) : impl_Chain_cost_L1 N fu_ kx (sum1 0) (stage 0) (v181 0) (v191 0) (v201 0) (v25 0) (v26 0) (v27 0) (c2 0) (b151 0) = res_ := by
  exact loop_run (L := fun fu_ (x_ : Int × Int × (List (List Int)) × Int × Int × (List Int) × Int × Int × ((List Int) × (List Int) × (List Int)) × ((List (List Int)) × Bool)) => impl_Chain_cost_L1 N fu_ kx x_.1 x_.2.1 x_.2.2.1 x_.2.2.2.1 x_.2.2.2.2.1 x_.2.2.2.2.2.1 x_.2.2.2.2.2.2.1 x_.2.2.2.2.2.2.2.1 x_.2.2.2.2.2.2.2.2.1 x_.2.2.2.2.2.2.2.2.2) (B := fun kx_ x_ => impl_Chain_cost_B1 N kx (fun sum1 stage v181 v191 v201 v25 v26 v27 c2 b151 => kx_ (sum1, stage, v181, v191, v201, v25, v26, v27, c2, b151)) x_.1 x_.2.1 x_.2.2.1 x_.2.2.2.1 x_.2.2.2.2.1 x_.2.2.2.2.2.1 x_.2.2.2.2.2.2.1 x_.2.2.2.2.2.2.2.1 x_.2.2.2.2.2.2.2.2.1 x_.2.2.2.2.2.2.2.2.2) (fun _ _ => rfl) (fun j_ => (sum1 j_, stage j_, v181 j_, v191 j_, v201 j_, v25 j_, v26 j_, v27 j_, c2 j_, b151 j_)) n_ (fun j_ hi_ kx_ => hstep_ j_ hi_ _) (fun kx_ => hend_ _) fu_ hm_
def impl_Chain_cost_K3 (N : Nat) (sum4 : Int) : Option (Int × Unit) :=
  some (sum4, ())
def impl_Chain_cost_B2 (N : Nat) (kx : Int → (List (List Int)) → Int → Int → ((List Int) × (List Int) × (List Int)) → ((List (List Int)) × Bool) → Option (Int × Unit)) (sum : Int) (v18 : List (List Int)) (v19 : Int) (v20 : Int) (c1 : (List Int) × (List Int) × (List Int)) (b15 : (List (List Int)) × Bool) : Option (Int × Unit) :=
  bif ilt v20 v19 then
    chk (inB v20 v18.length) <|
    impl_Chain_cost_L1 N N kx sum v20 v18 v19 v20 (gd v18 v20.toNat []) (len (gd v18 v20.toNat [])) 0 c1 b15
  else
    impl_Chain_cost_K3 N sum
def impl_Chain_cost_L2 (N fu_ : Nat) (sum : Int) (v18 : List (List Int)) (v19 : Int) (v20 : Int) (c1 : (List Int) × (List Int) × (List Int)) (b15 : (List (List Int)) × Bool) : Option (Int × Unit) :=
  iterK fu_ (fun kx (v_ : (Int × (List (List Int)) × Int × Int × Unit) × (((List Int) × (List Int) × (List Int)) × ((List (List Int)) × Bool) × Unit)) => impl_Chain_cost_B2 N (fun sum v18 v19 v20 c1 b15 => kx ((sum, v18, v19, v20, ()), (c1, b15, ()))) v_.1.1 v_.1.2.1 v_.1.2.2.1 v_.1.2.2.2.1 v_.2.1 v_.2.2.1) ((sum, v18, v19, v20, ()), (c1, b15, ()))
theorem impl_Chain_cost_L2_succ (N fu_ : Nat) (sum : Int) (v18 : List (List Int)) (v19 : Int) (v20 : Int) (c1 : (List Int) × (List Int) × (List Int)) (b15 : (List (List Int)) × Bool) : impl_Chain_cost_L2 N (fu_ + 1) sum v18 v19 v20 c1 b15 = impl_Chain_cost_B2 N (fun sum v18 v19 v20 c1 b15 => impl_Chain_cost_L2 N fu_ sum v18 v19 v20 c1 b15) sum v18 v19 v20 c1 b15 := rfl
theorem impl_Chain_cost_L2_run (N : Nat) (sum : Nat → Int) (v18 : Nat → (List (List Int))) (v19 : Nat → Int) (v20 : Nat → Int) (c1 : Nat → ((List Int) × (List Int) × (List Int))) (b15 : Nat → ((List (List Int)) × Bool)) (n_ : Nat) {res_ : Option (Int × Unit)} (hstep_ : ∀ j_, j_ < n_ → ∀ kx_, impl_Chain_cost_B2 N kx_ (sum j_) (v18 j_) (v19 j_) (v20 j_) (c1 j_) (b15 j_) = kx_ (sum (j_ + 1)) (v18 (j_ + 1)) (v19 (j_ + 1)) (v20 (j_ + 1)) (c1 (j_ + 1)) (b15 (j_ + 1))) (hend_ : ∀ kx_, impl_Chain_cost_B2 N kx_ (sum n_) (v18 n_) (v19 n_) (v20 n_) (c1 n_) (b15 n_) = res_) (fu_ : Nat) (hm_ : n_ < fu_) : impl_Chain_cost_L2 N fu_ (sum 0) (v18 0) (v19 0) (v20 0) (c1 0) (b15 0) = res_ := by
  exact loop_run (L := fun fu_ (x_ : Int × (List (List Int)) × Int × Int × ((List Int) × (List Int) × (List Int)) × ((List (List Int)) × Bool)) => impl_Chain_cost_L2 N fu_ x_.1 x_.2.1 x_.2.2.1 x_.2.2.2.1 x_.2.2.2.2.1 x_.2.2.2.2.2) (B := fun kx_ x_ => impl_Chain_cost_B2 N (fun sum v18 v19 v20 c1 b15 => kx_ (sum, v18, v19, v20, c1, b15)) x_.1 x_.2.1 x_.2.2.1 x_.2.2.2.1 x_.2.2.2.2.1 x_.2.2.2.2.2) (fun _ _ => rfl) (fun j_ => (sum j_, v18 j_, v19 j_, v20 j_, c1 j_, b15 j_)) n_ (fun j_ hi_ kx_ => hstep_ j_ hi_ _) (fun kx_ => hend_ _) fu_ hm_
def impl_Chain_cost (N : Nat) (c : (List Int) × (List Int) × (List Int)) (plan : List (List Int)) : Option (Int × Unit) :=
  (impl_Chain_stocks N c plan).bind fun r =>
  impl_Chain_cost_L2 N N 0 plan (len plan) 0 c r.1
def impl_ChainCost (N : Nat) (c : (List Int) × (List Int) × (List Int)) (plan : List (List Int)) : Option ((Int × Bool) × Unit) :=
  (impl_linked N c plan).bind fun r =>
  bif !r.1.2 then
    some ((0, false), ())
  else
    (impl_Chain_cost N c plan).bind fun r1 =>
    some ((r1.1, true), ())
def laws_eqIntS_K1 (N : Nat) : Option (Bool × Unit) :=
  some (true, ())
def laws_eqIntS_B1 (N : Nat) (kx : (List Int) → (List Int) → Int → Option (Bool × Unit)) (a1 : List Int) (b1 : List Int) (i : Int) : Option (Bool × Unit) :=
  bif ilt i (len a1) then
    chk (inB i a1.length) <|
    chk (inB i b1.length) <|
    bif ine (gd a1 i.toNat 0) (gd b1 i.toNat 0) then
      some (false, ())
    else
      kx a1 b1 (iadd .i64 i 1)
  else
    laws_eqIntS_K1 N
def laws_eqIntS_L1 (N fu_ : Nat) (a1 : List Int) (b1 : List Int) (i : Int) : Option (Bool × Unit) :=
  iterK fu_ (fun kx (v_ : ((List Int) × (List Int) × Int × Unit) × (Unit)) => laws_eqIntS_B1 N (fun a1 b1 i => kx ((a1, b1, i, ()), ())) v_.1.1 v_.1.2.1 v_.1.2.2.1) ((a1, b1, i, ()), ())
theorem laws_eqIntS_L1_succ (N fu_ : Nat) (a1 : List Int) (b1 : List Int) (i : Int) : laws_eqIntS_L1 N (fu_ + 1) a1 b1 i = laws_eqIntS_B1 N (fun a1 b1 i => laws_eqIntS_L1 N fu_ a1 b1 i) a1 b1 i := rfl
theorem laws_eqIntS_L1_run (N : Nat) (a1 : Nat → (List Int)) (b1 : Nat → (List Int)) (i : Nat → Int) (n_ : Nat) {res_ : Option (Bool × Unit)} (hstep_ : ∀ j_, j_ < n_ → ∀ kx_, laws_eqIntS_B1 N kx_ (a1 j_) (b1 j_) (i j_) = kx_ (a1 (j_ + 1)) (b1 (j_ + 1)) (i (j_ + 1))) (hend_ : ∀ kx_, laws_eqIntS_B1 N kx_ (a1 n_) (b1 n_) (i n_) = res_) (fu_ : Nat) (hm_ : n_ < fu_) : laws_eqIntS_L1 N fu_ (a1 0) (b1 0) (i 0) = res_ := by
  exact loop_run (L := fun fu_ (x_ : (List Int) × (List Int) × Int) => laws_eqIntS_L1 N fu_ x_.1 x_.2.1 x_.2.2) (B := fun kx_ x_ => laws_eqIntS_B1 N (fun a1 b1 i => kx_ (a1, b1, i)) x_.1 x_.2.1 x_.2.2) (fun _ _ => rfl) (fun j_ => (a1 j_, b1 j_, i j_)) n_ (fun j_ hi_ kx_ => hstep_ j_ hi_ _) (fun kx_ => hend_ _) fu_ hm_
def laws_eqIntS (N : Nat) (a : List Int) (b : List Int) : Option (Bool × Unit) :=
  bif ine (len a) (len b) then
    some (false, ())
  else
    laws_eqIntS_L1 N N a b 0
def laws_eqChain (N : Nat) (a : (List Int) × (List Int) × (List Int)) (b : (List Int) × (List Int) × (List Int)) : Option (Bool × Unit) :=
  (laws_eqIntS N a.1 b.1).bind fun r =>
  bif !r.1 then
    some (false, ())
  else
    (laws_eqIntS N a.2.1 b.2.1).bind fun r1 =>
    bif !r1.1 then
      some (false, ())
    else
      (laws_eqIntS N a.2.2 b.2.2).bind fun r2 =>
      bif !r2.1 then
        some (false, ())
      else
        some (true, ())
def laws_eqIntSS_K1 (N : Nat) : Option (Bool × Unit) :=
  some (true, ())
def laws_eqIntSS_B1 (N : Nat) (kx : (List (List Int)) → (List (List Int)) → Int → Option (Bool × Unit)) (a1 : List (List Int)) (b1 : List (List Int)) (i : Int) : Option (Bool × Unit) :=
  bif ilt i (len a1) then
    chk (inB i a1.length) <|
    chk (inB i b1.length) <|
    (laws_eqIntS N (gd a1 i.toNat []) (gd b1 i.toNat [])).bind fun r =>
    bif !r.1 then
      some (false, ())
    else
      kx a1 b1 (iadd .i64 i 1)
  else
    laws_eqIntSS_K1 N
def laws_eqIntSS_L1 (N fu_ : Nat) (a1 : List (List Int)) (b1 : List (List Int)) (i : Int) : Option (Bool × Unit) :=
  iterK fu_ (fun kx (v_ : ((List (List Int)) × (List (List Int)) × Int × Unit) × (Unit)) => laws_eqIntSS_B1 N (fun a1 b1 i => kx ((a1, b1, i, ()), ())) v_.1.1 v_.1.2.1 v_.1.2.2.1) ((a1, b1, i, ()), ())
theorem laws_eqIntSS_L1_succ (N fu_ : Nat) (a1 : List (List Int)) (b1 : List (List Int)) (i : Int) : laws_eqIntSS_L1 N (fu_ + 1) a1 b1 i = laws_eqIntSS_B1 N (fun a1 b1 i => laws_eqIntSS_L1 N fu_ a1 b1 i) a1 b1 i := rfl
theorem laws_eqIntSS_L1_run (N : Nat) (a1 : Nat → (List (List Int))) (b1 : Nat → (List (List Int))) (i : Nat → Int) (n_ : Nat) {res_ : Option (Bool × Unit)} (hstep_ : ∀ j_, j_ < n_ → ∀ kx_, laws_eqIntSS_B1 N kx_ (a1 j_) (b1 j_) (i j_) = kx_ (a1 (j_ + 1)) (b1 (j_ + 1)) (i (j_ + 1))) (hend_ : ∀ kx_, laws_eqIntSS_B1 N kx_ (a1 n_) (b1 n_) (i n_) = res_) (fu_ : Nat) (hm_ : n_ < fu_) : laws_eqIntSS_L1 N fu_ (a1 0) (b1 0) (i 0) = res_ := by
  exact loop_run (L := fun fu_ (x_ : (List (List Int)) × (List (List Int)) × Int) => laws_eqIntSS_L1 N fu_ x_.1 x_.2.1 x_.2.2) (B := fun kx_ x_ => laws_eqIntSS_B1 N (fun a1 b1 i => kx_ (a1, b1, i)) x_.1 x_.2.1 x_.2.2) (fun _ _ => rfl) (fun j_ => (a1 j_, b1 j_, i j_)) n_ (fun j_ hi_ kx_ => hstep_ j_ hi_ _) (fun kx_ => hend_ _) fu_ hm_
def laws_eqIntSS (N : Nat) (a : List (List Int)) (b : List (List Int)) : Option (Bool × Unit) :=
  bif ine (len a) (len b) then
    some (false, ())
  else
    laws_eqIntSS_L1 N N a b 0
def laws_FnExactChainCost (N : Nat) (aC : (List Int) × (List Int) × (List Int)) (aPlan : List (List Int)) : Option (Bool × Unit) :=
  (laws_szChain N aC 1048576).bind fun r =>
  bif ilt r.1 0 then
    some (true, ())
  else
    (laws_szIntSS N aPlan r.1).bind fun r1 =>
    bif ilt r1.1 0 then
      some (true, ())
    else
      (laws_toChain N aC).bind fun r2 =>
      (laws_toIntSS N aPlan).bind fun r3 =>
      (spec_ChainCost N r2.1 r3.1).bind fun r4 =>
      (laws_toChain N aC).bind fun r5 =>
      (laws_toIntSS N aPlan).bind fun r6 =>
      (impl_ChainCost N r5.1 r6.1).bind fun r7 =>
      bif ine r7.1.1 r4.1.1 then
        some (false, ())
      else
        bif !(Go.Rx.beq r7.1.2 r4.1.2) then
          some (false, ())
        else
          (laws_toChain N aC).bind fun r8 =>
          (laws_eqChain N r5.1 r8.1).bind fun r9 =>
          bif !r9.1 then
            some (false, ())
          else
            (laws_toIntSS N aPlan).bind fun r10 =>
            (laws_eqIntSS N r6.1 r10.1).bind fun r11 =>
            bif !r11.1 then
              some (false, ())
            else
              some (true, ())
end Px
end Go.Rx
