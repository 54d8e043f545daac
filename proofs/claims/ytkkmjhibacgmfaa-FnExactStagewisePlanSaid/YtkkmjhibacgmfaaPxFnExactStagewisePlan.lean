/- This text defines the plain functions that the Go functions behind FnExactStagewisePlan compute; no condition. -/
import Derived.Test.YtkkmjhibacgmfaaRxd
set_option linter.unusedVariables false
set_option linter.unusedSimpArgs false
namespace Go.Rx
namespace Px
def laws_szIntS (N : Nat) (a : List Int) (left : Int) : Option (Int × Unit) :=
  bif ilt (isub .i64 left (len a)) 0 then
    some ((-1), ())
  else
    some (isub .i64 left (len a), ())
def laws_szChain (N : Nat) (a : (List Int) × (List Int) × (List Int)) (left : Int) : Option (Int × Unit) :=
  (laws_szIntS N a.1 left).bind fun r =>
  bif ilt r.1 0 then
    some ((-1), ())
  else
    (laws_szIntS N a.2.1 r.1).bind fun r1 =>
    bif ilt r1.1 0 then
      some ((-1), ())
    else
      (laws_szIntS N a.2.2 r1.1).bind fun r2 =>
      bif ilt r2.1 0 then
        some ((-1), ())
      else
        some (r2.1, ())
def laws_toIntS_K1 (N : Nat) (out1 : List Int) : Option ((List Int) × Unit) :=
  some (out1, ())
def laws_toIntS_B1 (N : Nat) (kx : (List Int) → Int → (List Int) → Option ((List Int) × Unit)) (a1 : List Int) (i : Int) (out : List Int) : Option ((List Int) × Unit) :=
  bif ilt i (len a1) then
    chk (inB i a1.length) <|
    chk (inB i out.length) <|
    kx a1 (iadd .i64 i 1) (List.set out i.toNat (gd a1 i.toNat 0))
  else
    laws_toIntS_K1 N out
def laws_toIntS_L1 (N fu_ : Nat) (a1 : List Int) (i : Int) (out : List Int) : Option ((List Int) × Unit) :=
  iterK fu_ (fun kx (v_ : ((List Int) × Int × Unit) × ((List Int) × Unit)) => laws_toIntS_B1 N (fun a1 i out => kx ((a1, i, ()), (out, ()))) v_.1.1 v_.1.2.1 v_.2.1) ((a1, i, ()), (out, ()))
theorem laws_toIntS_L1_succ (N fu_ : Nat) (a1 : List Int) (i : Int) (out : List Int) : laws_toIntS_L1 N (fu_ + 1) a1 i out = laws_toIntS_B1 N (fun a1 i out => laws_toIntS_L1 N fu_ a1 i out) a1 i out := rfl
theorem laws_toIntS_L1_run (N : Nat) (a1 : Nat → (List Int)) (i : Nat → Int) (out : Nat → (List Int)) (n_ : Nat) {res_ : Option ((List Int) × Unit)} (hstep_ : ∀ j_, j_ < n_ → ∀ kx_, laws_toIntS_B1 N kx_ (a1 j_) (i j_) (out j_) = kx_ (a1 (j_ + 1)) (i (j_ + 1)) (out (j_ + 1))) (hend_ : ∀ kx_, laws_toIntS_B1 N kx_ (a1 n_) (i n_) (out n_) = res_) (fu_ : Nat) (hm_ : n_ < fu_) : laws_toIntS_L1 N fu_ (a1 0) (i 0) (out 0) = res_ := by
  exact loop_run (L := fun fu_ (x_ : (List Int) × Int × (List Int)) => laws_toIntS_L1 N fu_ x_.1 x_.2.1 x_.2.2) (B := fun kx_ x_ => laws_toIntS_B1 N (fun a1 i out => kx_ (a1, i, out)) x_.1 x_.2.1 x_.2.2) (fun _ _ => rfl) (fun j_ => (a1 j_, i j_, out j_)) n_ (fun j_ hi_ kx_ => hstep_ j_ hi_ _) (fun kx_ => hend_ _) fu_ hm_
def laws_toIntS (N : Nat) (a : List Int) : Option ((List Int) × Unit) :=
  chk (mkB (len a) 8) <|
  laws_toIntS_L1 N N a 0 (List.replicate (len a).toNat 0)
def laws_toChain (N : Nat) (a : (List Int) × (List Int) × (List Int)) : Option (((List Int) × (List Int) × (List Int)) × Unit) :=
  (laws_toIntS N a.1).bind fun r =>
  (laws_toIntS N a.2.1).bind fun r1 =>
  (laws_toIntS N a.2.2).bind fun r2 =>
  some ((r.1, (r1.1, r2.1)), ())
def laws_eqIntS_K1 (N : Nat) : Option (Bool × Unit) :=
  some (true, ())
def laws_eqIntS_B1 (N : Nat) (kx : (List Int) → (List Int) → Int → Option (Bool × Unit)) (a1 : List Int) (b1 : List Int) (i : Int) : Option (Bool × Unit) :=
  bif ilt i (len a1) then
    chk (inB i a1.length) <|
    chk (inB i b1.length) <|
    bif ine (gd a1 i.toNat 0) (gd b1 i.toNat 0) then
      some (false, ())
    else
      kx a1 b1 (iadd .i64 i 1)
  else
    laws_eqIntS_K1 N
def laws_eqIntS_L1 (N fu_ : Nat) (a1 : List Int) (b1 : List Int) (i : Int) : Option (Bool × Unit) :=
  iterK fu_ (fun kx (v_ : ((List Int) × (List Int) × Int × Unit) × (Unit)) => laws_eqIntS_B1 N (fun a1 b1 i => kx ((a1, b1, i, ()), ())) v_.1.1 v_.1.2.1 v_.1.2.2.1) ((a1, b1, i, ()), ())
theorem laws_eqIntS_L1_succ (N fu_ : Nat) (a1 : List Int) (b1 : List Int) (i : Int) : laws_eqIntS_L1 N (fu_ + 1) a1 b1 i = laws_eqIntS_B1 N (fun a1 b1 i => laws_eqIntS_L1 N fu_ a1 b1 i) a1 b1 i := rfl
theorem laws_eqIntS_L1_run (N : Nat) (a1 : Nat → (List Int)) (b1 : Nat → (List Int)) (i : Nat → Int) (n_ : Nat) {res_ : Option (Bool × Unit)} (hstep_ : ∀ j_, j_ < n_ → ∀ kx_, laws_eqIntS_B1 N kx_ (a1 j_) (b1 j_) (i j_) = kx_ (a1 (j_ + 1)) (b1 (j_ + 1)) (i (j_ + 1))) (hend_ : ∀ kx_, laws_eqIntS_B1 N kx_ (a1 n_) (b1 n_) (i n_) = res_) (fu_ : Nat) (hm_ : n_ < fu_) : laws_eqIntS_L1 N fu_ (a1 0) (b1 0) (i 0) = res_ := by
  exact loop_run (L := fun fu_ (x_ : (List Int) × (List Int) × Int) => laws_eqIntS_L1 N fu_ x_.1 x_.2.1 x_.2.2) (B := fun kx_ x_ => laws_eqIntS_B1 N (fun a1 b1 i => kx_ (a1, b1, i)) x_.1 x_.2.1 x_.2.2) (fun _ _ => rfl) (fun j_ => (a1 j_, b1 j_, i j_)) n_ (fun j_ hi_ kx_ => hstep_ j_ hi_ _) (fun kx_ => hend_ _) fu_ hm_
def laws_eqIntS (N : Nat) (a : List Int) (b : List Int) : Option (Bool × Unit) :=
  bif ine (len a) (len b) then
    some (false, ())
  else
    laws_eqIntS_L1 N N a b 0
def laws_eqChain (N : Nat) (a : (List Int) × (List Int) × (List Int)) (b : (List Int) × (List Int) × (List Int)) : Option (Bool × Unit) :=
  (laws_eqIntS N a.1 b.1).bind fun r =>
  bif !r.1 then
    some (false, ())
  else
    (laws_eqIntS N a.2.1 b.2.1).bind fun r1 =>
    bif !r1.1 then
      some (false, ())
    else
      (laws_eqIntS N a.2.2 b.2.2).bind fun r2 =>
      bif !r2.1 then
        some (false, ())
      else
        some (true, ())
def spec_l1In (N : Nat) (x : Int) (a : Int) (b : Int) : Option (Bool × Unit) :=
  bif ile a x then
    some (ile x b, ())
  else
    some (false, ())
def spec_l2Row_K1 (N : Nat) (row2 : List Int) (n2 : Int) : Option (Bool × Unit) :=
  some (ieq (len row2) n2, ())
def spec_l2Row_B1 (N : Nat) (kx : (List Int) → Int → Int → Int → Option (Bool × Unit)) (row1 : List Int) (n1 : Int) (most1 : Int) (i : Int) : Option (Bool × Unit) :=
  bif ilt i (len row1) then
    chk (inB i row1.length) <|
    (spec_l1In N (gd row1 i.toNat 0) 0 most1).bind fun r =>
    bif !r.1 then
      some (false, ())
    else
      kx row1 n1 most1 (iadd .i64 i 1)
  else
    spec_l2Row_K1 N row1 n1
def spec_l2Row_L1 (N fu_ : Nat) (row1 : List Int) (n1 : Int) (most1 : Int) (i : Int) : Option (Bool × Unit) :=
  iterK fu_ (fun kx (v_ : ((List Int) × Int × Int × Int × Unit) × (Unit)) => spec_l2Row_B1 N (fun row1 n1 most1 i => kx ((row1, n1, most1, i, ()), ())) v_.1.1 v_.1.2.1 v_.1.2.2.1 v_.1.2.2.2.1) ((row1, n1, most1, i, ()), ())
theorem spec_l2Row_L1_succ (N fu_ : Nat) (row1 : List Int) (n1 : Int) (most1 : Int) (i : Int) : spec_l2Row_L1 N (fu_ + 1) row1 n1 most1 i = spec_l2Row_B1 N (fun row1 n1 most1 i => spec_l2Row_L1 N fu_ row1 n1 most1 i) row1 n1 most1 i := rfl
theorem spec_l2Row_L1_run (N : Nat) (row1 : Nat → (List Int)) (n1 : Nat → Int) (most1 : Nat → Int) (i : Nat → Int) (n_ : Nat) {res_ : Option (Bool × Unit)} (hstep_ : ∀ j_, j_ < n_ → ∀ kx_, spec_l2Row_B1 N kx_ (row1 j_) (n1 j_) (most1 j_) (i j_) = kx_ (row1 (j_ + 1)) (n1 (j_ + 1)) (most1 (j_ + 1)) (i (j_ + 1))) (hend_ : ∀ kx_, spec_l2Row_B1 N kx_ (row1 n_) (n1 n_) (most1 n_) (i n_) = res_) (fu_ : Nat) (hm_ : n_ < fu_) : spec_l2Row_L1 N fu_ (row1 0) (n1 0) (most1 0) (i 0) = res_ := by
  exact loop_run (L := fun fu_ (x_ : (List Int) × Int × Int × Int) => spec_l2Row_L1 N fu_ x_.1 x_.2.1 x_.2.2.1 x_.2.2.2) (B := fun kx_ x_ => spec_l2Row_B1 N (fun row1 n1 most1 i => kx_ (row1, n1, most1, i)) x_.1 x_.2.1 x_.2.2.1 x_.2.2.2) (fun _ _ => rfl) (fun j_ => (row1 j_, n1 j_, most1 j_, i j_)) n_ (fun j_ hi_ kx_ => hstep_ j_ hi_ _) (fun kx_ => hend_ _) fu_ hm_
def spec_l2Row (N : Nat) (row : List Int) (n : Int) (most : Int) : Option (Bool × Unit) :=
  spec_l2Row_L1 N N row n most 0
def spec_l7Good_K1 (N : Nat) : Option (Bool × Unit) :=
  some (true, ())
def spec_l7Good_B1 (N : Nat) (kx : Int → ((List Int) × (List Int) × (List Int)) → Option (Bool × Unit)) (s : Int) (c1 : (List Int) × (List Int) × (List Int)) : Option (Bool × Unit) :=
  bif ilt s (len c1.2.2) then
    chk (inB s c1.2.2.length) <|
    chk (inB (isub .i64 s 1) c1.2.2.length) <|
    bif ilt (gd c1.2.2 s.toNat 0) (gd c1.2.2 (isub .i64 s 1).toNat 0) then
      some (false, ())
    else
      kx (iadd .i64 s 1) c1
  else
    spec_l7Good_K1 N
def spec_l7Good_L1 (N fu_ : Nat) (s : Int) (c1 : (List Int) × (List Int) × (List Int)) : Option (Bool × Unit) :=
  iterK fu_ (fun kx (v_ : (Int × Unit) × (((List Int) × (List Int) × (List Int)) × Unit)) => spec_l7Good_B1 N (fun s c1 => kx ((s, ()), (c1, ()))) v_.1.1 v_.2.1) ((s, ()), (c1, ()))
theorem spec_l7Good_L1_succ (N fu_ : Nat) (s : Int) (c1 : (List Int) × (List Int) × (List Int)) : spec_l7Good_L1 N (fu_ + 1) s c1 = spec_l7Good_B1 N (fun s c1 => spec_l7Good_L1 N fu_ s c1) s c1 := rfl
theorem spec_l7Good_L1_run (N : Nat) (s : Nat → Int) (c1 : Nat → ((List Int) × (List Int) × (List Int))) (n_ : Nat) {res_ : Option (Bool × Unit)} (hstep_ : ∀ j_, j_ < n_ → ∀ kx_, spec_l7Good_B1 N kx_ (s j_) (c1 j_) = kx_ (s (j_ + 1)) (c1 (j_ + 1))) (hend_ : ∀ kx_, spec_l7Good_B1 N kx_ (s n_) (c1 n_) = res_) (fu_ : Nat) (hm_ : n_ < fu_) : spec_l7Good_L1 N fu_ (s 0) (c1 0) = res_ := by
  exact loop_run (L := fun fu_ (x_ : Int × ((List Int) × (List Int) × (List Int))) => spec_l7Good_L1 N fu_ x_.1 x_.2) (B := fun kx_ x_ => spec_l7Good_B1 N (fun s c1 => kx_ (s, c1)) x_.1 x_.2) (fun _ _ => rfl) (fun j_ => (s j_, c1 j_)) n_ (fun j_ hi_ kx_ => hstep_ j_ hi_ _) (fun kx_ => hend_ _) fu_ hm_
def spec_l7Good (N : Nat) (c : (List Int) × (List Int) × (List Int)) : Option (Bool × Unit) :=
  bif ilt 6 (len c.1) then
    some (false, ())
  else
    (spec_l2Row N c.1 (len c.1) 20).bind fun r =>
    bif !r.1 then
      some (false, ())
    else
      (spec_l1In N (len c.2.1) 1 3).bind fun r1 =>
      bif !r1.1 then
        some (false, ())
      else
        (spec_l2Row N c.2.1 (len c.2.1) 99).bind fun r2 =>
        bif !r2.1 then
          some (false, ())
        else
          (spec_l2Row N c.2.2 (len c.2.1) 9).bind fun r3 =>
          bif !r3.1 then
            some (false, ())
          else
            spec_l7Good_L1 N N 1 c
def spec_l7Case_K1 (N : Nat) (v61 : (List Int) × (List Int) × (List Int) × (List Int)) (out1 : (List Int) × (List Int) × (List Int) × (List Int)) : Option (((List Int) × (List Int) × (List Int) × (List Int)) × Unit) :=
  some (out1, ())
def spec_l7Case_B1 (N : Nat) (kx : (List Int) → Int → Int → Int → ((List Int) × (List Int) × (List Int) × (List Int)) → ((List Int) × (List Int) × (List Int) × (List Int)) → Option (((List Int) × (List Int) × (List Int) × (List Int)) × Unit)) (need1 : List Int) (setup1 : Int) (hold1 : Int) (t : Int) (v6 : (List Int) × (List Int) × (List Int) × (List Int)) (out : (List Int) × (List Int) × (List Int) × (List Int)) : Option (((List Int) × (List Int) × (List Int) × (List Int)) × Unit) :=
  bif ilt t (len need1) then
    chk (inB t need1.length) <|
    chk (fitB (out.1.length + 1) 8) <|
    chk (fitB (out.2.1.length + 1) 8) <|
    chk (fitB (out.2.2.1.length + 1) 8) <|
    chk (fitB (out.2.2.2.length + 1) 8) <|
    kx need1 setup1 hold1 (iadd .i64 t 1) v6 (out.1 ++ [gd need1 t.toNat 0], (out.2.1 ++ [setup1], (out.2.2.1 ++ [0], out.2.2.2 ++ [hold1])))
  else
    spec_l7Case_K1 N v6 out
def spec_l7Case_L1 (N fu_ : Nat) (need1 : List Int) (setup1 : Int) (hold1 : Int) (t : Int) (v6 : (List Int) × (List Int) × (List Int) × (List Int)) (out : (List Int) × (List Int) × (List Int) × (List Int)) : Option (((List Int) × (List Int) × (List Int) × (List Int)) × Unit) :=
  iterK fu_ (fun kx (v_ : ((List Int) × Int × Int × Int × Unit) × (((List Int) × (List Int) × (List Int) × (List Int)) × ((List Int) × (List Int) × (List Int) × (List Int)) × Unit)) => spec_l7Case_B1 N (fun need1 setup1 hold1 t v6 out => kx ((need1, setup1, hold1, t, ()), (v6, out, ()))) v_.1.1 v_.1.2.1 v_.1.2.2.1 v_.1.2.2.2.1 v_.2.1 v_.2.2.1) ((need1, setup1, hold1, t, ()), (v6, out, ()))
theorem spec_l7Case_L1_succ (N fu_ : Nat) (need1 : List Int) (setup1 : Int) (hold1 : Int) (t : Int) (v6 : (List Int) × (List Int) × (List Int) × (List Int)) (out : (List Int) × (List Int) × (List Int) × (List Int)) : spec_l7Case_L1 N (fu_ + 1) need1 setup1 hold1 t v6 out = spec_l7Case_B1 N (fun need1 setup1 hold1 t v6 out => spec_l7Case_L1 N fu_ need1 setup1 hold1 t v6 out) need1 setup1 hold1 t v6 out := rfl
theorem spec_l7Case_L1_run (N : Nat) (need1 : Nat → (List Int)) (setup1 : Nat → Int) (hold1 : Nat → Int) (t : Nat → Int) (v6 : Nat → ((List Int) × (List Int) × (List Int) × (List Int))) (out : Nat → ((List Int) × (List Int) × (List Int) × (List Int))) (n_ : Nat) {res_ : Option (((List Int) × (List Int) × (List Int) × (List Int)) × Unit)} (hstep_ : ∀ j_, j_ < n_ → ∀ kx_, spec_l7Case_B1 N kx_ (need1 j_) (setup1 j_) (hold1 j_) (t j_) (v6 j_) (out j_) = kx_ (need1 (j_ + 1)) (setup1 (j_ + 1)) (hold1 (j_ + 1)) (t (j_ + 1)) (v6 (j_ + 1)) (out (j_ + 1))) (hend_ : ∀ kx_, spec_l7Case_B1 N kx_ (need1 n_) (setup1 n_) (hold1 n_) (t n_) (v6 n_) (out n_) = res_) (fu_ : Nat) (hm_ : n_ < fu_) : spec_l7Case_L1 N fu_ (need1 0) (setup1 0) (hold1 0) (t 0) (v6 0) (out 0) = res_ := by
  exact loop_run (L := fun fu_ (x_ : (List Int) × Int × Int × Int × ((List Int) × (List Int) × (List Int) × (List Int)) × ((List Int) × (List Int) × (List Int) × (List Int))) => spec_l7Case_L1 N fu_ x_.1 x_.2.1 x_.2.2.1 x_.2.2.2.1 x_.2.2.2.2.1 x_.2.2.2.2.2) (B := fun kx_ x_ => spec_l7Case_B1 N (fun need1 setup1 hold1 t v6 out => kx_ (need1, setup1, hold1, t, v6, out)) x_.1 x_.2.1 x_.2.2.1 x_.2.2.2.1 x_.2.2.2.2.1 x_.2.2.2.2.2) (fun _ _ => rfl) (fun j_ => (need1 j_, setup1 j_, hold1 j_, t j_, v6 j_, out j_)) n_ (fun j_ hi_ kx_ => hstep_ j_ hi_ _) (fun kx_ => hend_ _) fu_ hm_
def spec_l7Case (N : Nat) (need : List Int) (setup : Int) (hold : Int) : Option (((List Int) × (List Int) × (List Int) × (List Int)) × Unit) :=
  spec_l7Case_L1 N N need setup hold 0 ([], ([], ([], []))) ([], ([], ([], [])))
def spec_l2Good (N : Nat) (c : (List Int) × (List Int) × (List Int) × (List Int)) : Option (Bool × Unit) :=
  bif ile (len c.1) 8 then
    (spec_l2Row N c.1 (len c.1) 20).bind fun r =>
    bif r.1 then
      (spec_l2Row N c.2.1 (len c.1) 99).bind fun r1 =>
      bif r1.1 then
        (spec_l2Row N c.2.2.1 (len c.1) 9).bind fun r2 =>
        bif r2.1 then
          (spec_l2Row N c.2.2.2 (len c.1) 9).bind fun r3 =>
          some (r3.1, ())
        else
          some (false, ())
      else
        some (false, ())
    else
      some (false, ())
  else
    some (false, ())
def spec_l2Sum_K1 (N : Nat) (sum1 : Int) : Option (Int × Unit) :=
  some (sum1, ())
def spec_l2Sum_B1 (N : Nat) (kx : (List Int) → Int → Int → Option (Int × Unit)) (list1 : List Int) (sum : Int) (i : Int) : Option (Int × Unit) :=
  bif ilt i (len list1) then
    chk (inB i list1.length) <|
    kx list1 (iadd .i64 sum (gd list1 i.toNat 0)) (iadd .i64 i 1)
  else
    spec_l2Sum_K1 N sum
def spec_l2Sum_L1 (N fu_ : Nat) (list1 : List Int) (sum : Int) (i : Int) : Option (Int × Unit) :=
  iterK fu_ (fun kx (v_ : ((List Int) × Int × Int × Unit) × (Unit)) => spec_l2Sum_B1 N (fun list1 sum i => kx ((list1, sum, i, ()), ())) v_.1.1 v_.1.2.1 v_.1.2.2.1) ((list1, sum, i, ()), ())
theorem spec_l2Sum_L1_succ (N fu_ : Nat) (list1 : List Int) (sum : Int) (i : Int) : spec_l2Sum_L1 N (fu_ + 1) list1 sum i = spec_l2Sum_B1 N (fun list1 sum i => spec_l2Sum_L1 N fu_ list1 sum i) list1 sum i := rfl
theorem spec_l2Sum_L1_run (N : Nat) (list1 : Nat → (List Int)) (sum : Nat → Int) (i : Nat → Int) (n_ : Nat) {res_ : Option (Int × Unit)} (hstep_ : ∀ j_, j_ < n_ → ∀ kx_, spec_l2Sum_B1 N kx_ (list1 j_) (sum j_) (i j_) = kx_ (list1 (j_ + 1)) (sum (j_ + 1)) (i (j_ + 1))) (hend_ : ∀ kx_, spec_l2Sum_B1 N kx_ (list1 n_) (sum n_) (i n_) = res_) (fu_ : Nat) (hm_ : n_ < fu_) : spec_l2Sum_L1 N fu_ (list1 0) (sum 0) (i 0) = res_ := by
  exact loop_run (L := fun fu_ (x_ : (List Int) × Int × Int) => spec_l2Sum_L1 N fu_ x_.1 x_.2.1 x_.2.2) (B := fun kx_ x_ => spec_l2Sum_B1 N (fun list1 sum i => kx_ (list1, sum, i)) x_.1 x_.2.1 x_.2.2) (fun _ _ => rfl) (fun j_ => (list1 j_, sum j_, i j_)) n_ (fun j_ hi_ kx_ => hstep_ j_ hi_ _) (fun kx_ => hend_ _) fu_ hm_
def spec_l2Sum (N : Nat) (list : List Int) : Option (Int × Unit) :=
  spec_l2Sum_L1 N N list 0 0
def spec_l2From_K1 (N : Nat) (kx : (List Int) → Int → ((List Int) × (List Int) × (List Int) × (List Int)) → (List Int) → Option ((List Int) × Unit)) (periods2 : List Int) (i1 : Int) (to : Int) (c2 : (List Int) × (List Int) × (List Int) × (List Int)) (out1 : List Int) : Option ((List Int) × Unit) :=
  chk (inB i1 periods2.length) <|
  chk (inB i1 periods2.length) <|
  chk (cutB (gd periods2 i1.toNat 0) to c2.1.length) <|
  (spec_l2Sum N (cut c2.1 (gd periods2 i1.toNat 0) to)).bind fun r =>
  chk (inB (gd periods2 i1.toNat 0) out1.length) <|
  kx periods2 (iadd .i64 i1 1) c2 (List.set out1 (gd periods2 i1.toNat 0).toNat r.1)
def spec_l2From_K2 (N : Nat) (out2 : List Int) : Option ((List Int) × Unit) :=
  some (out2, ())
def spec_l2From_B1 (N : Nat) (kx : (List Int) → Int → ((List Int) × (List Int) × (List Int) × (List Int)) → (List Int) → Option ((List Int) × Unit)) (periods1 : List Int) (i : Int) (c1 : (List Int) × (List Int) × (List Int) × (List Int)) (out : List Int) : Option ((List Int) × Unit) :=
  bif ilt i (len periods1) then
    bif ilt (iadd .i64 i 1) (len periods1) then
      chk (inB (iadd .i64 i 1) periods1.length) <|
      spec_l2From_K1 N kx periods1 i (gd periods1 (iadd .i64 i 1).toNat 0) c1 out
    else
      spec_l2From_K1 N kx periods1 i (len c1.1) c1 out
  else
    spec_l2From_K2 N out
def spec_l2From_L1 (N fu_ : Nat) (periods1 : List Int) (i : Int) (c1 : (List Int) × (List Int) × (List Int) × (List Int)) (out : List Int) : Option ((List Int) × Unit) :=
  iterK fu_ (fun kx (v_ : ((List Int) × Int × Unit) × (((List Int) × (List Int) × (List Int) × (List Int)) × (List Int) × Unit)) => spec_l2From_B1 N (fun periods1 i c1 out => kx ((periods1, i, ()), (c1, out, ()))) v_.1.1 v_.1.2.1 v_.2.1 v_.2.2.1) ((periods1, i, ()), (c1, out, ()))
theorem spec_l2From_L1_succ (N fu_ : Nat) (periods1 : List Int) (i : Int) (c1 : (List Int) × (List Int) × (List Int) × (List Int)) (out : List Int) : spec_l2From_L1 N (fu_ + 1) periods1 i c1 out = spec_l2From_B1 N (fun periods1 i c1 out => spec_l2From_L1 N fu_ periods1 i c1 out) periods1 i c1 out := rfl
theorem spec_l2From_L1_run (N : Nat) (periods1 : Nat → (List Int)) (i : Nat → Int) (c1 : Nat → ((List Int) × (List Int) × (List Int) × (List Int))) (out : Nat → (List Int)) (n_ : Nat) {res_ : Option ((List Int) × Unit)} (hstep_ : ∀ j_, j_ < n_ → ∀ kx_, spec_l2From_B1 N kx_ (periods1 j_) (i j_) (c1 j_) (out j_) = kx_ (periods1 (j_ + 1)) (i (j_ + 1)) (c1 (j_ + 1)) (out (j_ + 1))) (hend_ : ∀ kx_, spec_l2From_B1 N kx_ (periods1 n_) (i n_) (c1 n_) (out n_) = res_) (fu_ : Nat) (hm_ : n_ < fu_) : spec_l2From_L1 N fu_ (periods1 0) (i 0) (c1 0) (out 0) = res_ := by
  exact loop_run (L := fun fu_ (x_ : (List Int) × Int × ((List Int) × (List Int) × (List Int) × (List Int)) × (List Int)) => spec_l2From_L1 N fu_ x_.1 x_.2.1 x_.2.2.1 x_.2.2.2) (B := fun kx_ x_ => spec_l2From_B1 N (fun periods1 i c1 out => kx_ (periods1, i, c1, out)) x_.1 x_.2.1 x_.2.2.1 x_.2.2.2) (fun _ _ => rfl) (fun j_ => (periods1 j_, i j_, c1 j_, out j_)) n_ (fun j_ hi_ kx_ => hstep_ j_ hi_ _) (fun kx_ => hend_ _) fu_ hm_
def spec_l2From (N : Nat) (c : (List Int) × (List Int) × (List Int) × (List Int)) (periods : List Int) : Option ((List Int) × Unit) :=
  chk (mkB (len c.1) 8) <|
  spec_l2From_L1 N N periods 0 c (List.replicate (len c.1).toNat 0)
def spec_l2Bits_K1 (N : Nat) (out1 : List Int) : Option ((List Int) × Unit) :=
  some (out1, ())
def spec_l2Bits_B1 (N : Nat) (kx : Int → Int → Int → (List Int) → Option ((List Int) × Unit)) (n1 : Int) (code1 : Int) (x : Int) (out : List Int) : Option ((List Int) × Unit) :=
  bif ilt x n1 then
    chk (ile 0 x) <|
    bif ieq (iand .i64 (ishr .i64 code1 x) 1) 1 then
      chk (fitB (out.length + 1) 8) <|
      kx n1 code1 (iadd .i64 x 1) (out ++ [x])
    else
      kx n1 code1 (iadd .i64 x 1) out
  else
    spec_l2Bits_K1 N out
def spec_l2Bits_L1 (N fu_ : Nat) (n1 : Int) (code1 : Int) (x : Int) (out : List Int) : Option ((List Int) × Unit) :=
  iterK fu_ (fun kx (v_ : (Int × Int × Int × Unit) × ((List Int) × Unit)) => spec_l2Bits_B1 N (fun n1 code1 x out => kx ((n1, code1, x, ()), (out, ()))) v_.1.1 v_.1.2.1 v_.1.2.2.1 v_.2.1) ((n1, code1, x, ()), (out, ()))
theorem spec_l2Bits_L1_succ (N fu_ : Nat) (n1 : Int) (code1 : Int) (x : Int) (out : List Int) : spec_l2Bits_L1 N (fu_ + 1) n1 code1 x out = spec_l2Bits_B1 N (fun n1 code1 x out => spec_l2Bits_L1 N fu_ n1 code1 x out) n1 code1 x out := rfl
theorem spec_l2Bits_L1_run (N : Nat) (n1 : Nat → Int) (code1 : Nat → Int) (x : Nat → Int) (out : Nat → (List Int)) (n_ : Nat) {res_ : Option ((List Int) × Unit)} (hstep_ : ∀ j_, j_ < n_ → ∀ kx_, spec_l2Bits_B1 N kx_ (n1 j_) (code1 j_) (x j_) (out j_) = kx_ (n1 (j_ + 1)) (code1 (j_ + 1)) (x (j_ + 1)) (out (j_ + 1))) (hend_ : ∀ kx_, spec_l2Bits_B1 N kx_ (n1 n_) (code1 n_) (x n_) (out n_) = res_) (fu_ : Nat) (hm_ : n_ < fu_) : spec_l2Bits_L1 N fu_ (n1 0) (code1 0) (x 0) (out 0) = res_ := by
  exact loop_run (L := fun fu_ (x_ : Int × Int × Int × (List Int)) => spec_l2Bits_L1 N fu_ x_.1 x_.2.1 x_.2.2.1 x_.2.2.2) (B := fun kx_ x_ => spec_l2Bits_B1 N (fun n1 code1 x out => kx_ (n1, code1, x, out)) x_.1 x_.2.1 x_.2.2.1 x_.2.2.2) (fun _ _ => rfl) (fun j_ => (n1 j_, code1 j_, x j_, out j_)) n_ (fun j_ hi_ kx_ => hstep_ j_ hi_ _) (fun kx_ => hend_ _) fu_ hm_
def spec_l2Bits (N : Nat) (n : Int) (code : Int) : Option ((List Int) × Unit) :=
  spec_l2Bits_L1 N N n code 0 []
def spec_l2Covers_K1 (N : Nat) : Option (Bool × Unit) :=
  some (true, ())
def spec_l2Covers_B1 (N : Nat) (kx : (List Int) → Int → ((List Int) × (List Int) × (List Int) × (List Int)) → Option (Bool × Unit)) (periods1 : List Int) (t : Int) (c1 : (List Int) × (List Int) × (List Int) × (List Int)) : Option (Bool × Unit) :=
  bif ilt t (len c1.1) then
    bif ilt 0 (len periods1) then
      chk (inB 0 periods1.length) <|
      bif ile (gd periods1 0 0) t then
        some (true, ())
      else
        chk (inB t c1.1.length) <|
        bif ilt 0 (gd c1.1 t.toNat 0) then
          some (false, ())
        else
          kx periods1 (iadd .i64 t 1) c1
    else
      chk (inB t c1.1.length) <|
      bif ilt 0 (gd c1.1 t.toNat 0) then
        some (false, ())
      else
        kx periods1 (iadd .i64 t 1) c1
  else
    spec_l2Covers_K1 N
def spec_l2Covers_L1 (N fu_ : Nat) (periods1 : List Int) (t : Int) (c1 : (List Int) × (List Int) × (List Int) × (List Int)) : Option (Bool × Unit) :=
  iterK fu_ (fun kx (v_ : ((List Int) × Int × Unit) × (((List Int) × (List Int) × (List Int) × (List Int)) × Unit)) => spec_l2Covers_B1 N (fun periods1 t c1 => kx ((periods1, t, ()), (c1, ()))) v_.1.1 v_.1.2.1 v_.2.1) ((periods1, t, ()), (c1, ()))
theorem spec_l2Covers_L1_succ (N fu_ : Nat) (periods1 : List Int) (t : Int) (c1 : (List Int) × (List Int) × (List Int) × (List Int)) : spec_l2Covers_L1 N (fu_ + 1) periods1 t c1 = spec_l2Covers_B1 N (fun periods1 t c1 => spec_l2Covers_L1 N fu_ periods1 t c1) periods1 t c1 := rfl
theorem spec_l2Covers_L1_run (N : Nat) (periods1 : Nat → (List Int)) (t : Nat → Int) (c1 : Nat → ((List Int) × (List Int) × (List Int) × (List Int))) (n_ : Nat) {res_ : Option (Bool × Unit)} (hstep_ : ∀ j_, j_ < n_ → ∀ kx_, spec_l2Covers_B1 N kx_ (periods1 j_) (t j_) (c1 j_) = kx_ (periods1 (j_ + 1)) (t (j_ + 1)) (c1 (j_ + 1))) (hend_ : ∀ kx_, spec_l2Covers_B1 N kx_ (periods1 n_) (t n_) (c1 n_) = res_) (fu_ : Nat) (hm_ : n_ < fu_) : spec_l2Covers_L1 N fu_ (periods1 0) (t 0) (c1 0) = res_ := by
  exact loop_run (L := fun fu_ (x_ : (List Int) × Int × ((List Int) × (List Int) × (List Int) × (List Int))) => spec_l2Covers_L1 N fu_ x_.1 x_.2.1 x_.2.2) (B := fun kx_ x_ => spec_l2Covers_B1 N (fun periods1 t c1 => kx_ (periods1, t, c1)) x_.1 x_.2.1 x_.2.2) (fun _ _ => rfl) (fun j_ => (periods1 j_, t j_, c1 j_)) n_ (fun j_ hi_ kx_ => hstep_ j_ hi_ _) (fun kx_ => hend_ _) fu_ hm_
def spec_l2Covers (N : Nat) (c : (List Int) × (List Int) × (List Int) × (List Int)) (periods : List Int) : Option (Bool × Unit) :=
  spec_l2Covers_L1 N N periods 0 c
def spec_l2Stocks_K1 (N : Nat) (out1 : List Int) : Option ((List Int) × Unit) :=
  some (out1, ())
def spec_l2Stocks_B1 (N : Nat) (kx : (List Int) → Int → Int → ((List Int) × (List Int) × (List Int) × (List Int)) → (List Int) → Option ((List Int) × Unit)) (plan1 : List Int) (now : Int) (t : Int) (c1 : (List Int) × (List Int) × (List Int) × (List Int)) (out : List Int) : Option ((List Int) × Unit) :=
  bif ilt t (len plan1) then
    chk (inB t plan1.length) <|
    chk (inB t c1.1.length) <|
    chk (fitB (out.length + 1) 8) <|
    kx plan1 (isub .i64 (iadd .i64 now (gd plan1 t.toNat 0)) (gd c1.1 t.toNat 0)) (iadd .i64 t 1) c1 (out ++ [isub .i64 (iadd .i64 now (gd plan1 t.toNat 0)) (gd c1.1 t.toNat 0)])
  else
    spec_l2Stocks_K1 N out
def spec_l2Stocks_L1 (N fu_ : Nat) (plan1 : List Int) (now : Int) (t : Int) (c1 : (List Int) × (List Int) × (List Int) × (List Int)) (out : List Int) : Option ((List Int) × Unit) :=
  iterK fu_ (fun kx (v_ : ((List Int) × Int × Int × Unit) × (((List Int) × (List Int) × (List Int) × (List Int)) × (List Int) × Unit)) => spec_l2Stocks_B1 N (fun plan1 now t c1 out => kx ((plan1, now, t, ()), (c1, out, ()))) v_.1.1 v_.1.2.1 v_.1.2.2.1 v_.2.1 v_.2.2.1) ((plan1, now, t, ()), (c1, out, ()))
theorem spec_l2Stocks_L1_succ (N fu_ : Nat) (plan1 : List Int) (now : Int) (t : Int) (c1 : (List Int) × (List Int) × (List Int) × (List Int)) (out : List Int) : spec_l2Stocks_L1 N (fu_ + 1) plan1 now t c1 out = spec_l2Stocks_B1 N (fun plan1 now t c1 out => spec_l2Stocks_L1 N fu_ plan1 now t c1 out) plan1 now t c1 out := rfl
theorem spec_l2Stocks_L1_run (N : Nat) (plan1 : Nat → (List Int)) (now : Nat → Int) (t : Nat → Int) (c1 : Nat → ((List Int) × (List Int) × (List Int) × (List Int))) (out : Nat → (List Int)) (n_ : Nat) {res_ : Option ((List Int) × Unit)} (hstep_ : ∀ j_, j_ < n_ → ∀ kx_, spec_l2Stocks_B1 N kx_ (plan1 j_) (now j_) (t j_) (c1 j_) (out j_) = kx_ (plan1 (j_ + 1)) (now (j_ + 1)) (t (j_ + 1)) (c1 (j_ + 1)) (out (j_ + 1))) (hend_ : ∀ kx_, spec_l2Stocks_B1 N kx_ (plan1 n_) (now n_) (t n_) (c1 n_) (out n_) = res_) (fu_ : Nat) (hm_ : n_ < fu_) : spec_l2Stocks_L1 N fu_ (plan1 0) (now 0) (t 0) (c1 0) (out 0) = res_ := by
  exact loop_run (L := fun fu_ (x_ : (List Int) × Int × Int × ((List Int) × (List Int) × (List Int) × (List Int)) × (List Int)) => spec_l2Stocks_L1 N fu_ x_.1 x_.2.1 x_.2.2.1 x_.2.2.2.1 x_.2.2.2.2) (B := fun kx_ x_ => spec_l2Stocks_B1 N (fun plan1 now t c1 out => kx_ (plan1, now, t, c1, out)) x_.1 x_.2.1 x_.2.2.1 x_.2.2.2.1 x_.2.2.2.2) (fun _ _ => rfl) (fun j_ => (plan1 j_, now j_, t j_, c1 j_, out j_)) n_ (fun j_ hi_ kx_ => hstep_ j_ hi_ _) (fun kx_ => hend_ _) fu_ hm_
def spec_l2Stocks (N : Nat) (c : (List Int) × (List Int) × (List Int) × (List Int)) (plan : List Int) : Option ((List Int) × Unit) :=
  spec_l2Stocks_L1 N N plan 0 0 c []
def spec_l2Parts_K1 (N : Nat) (kx : (List Int) → Int → ((List Int) × (List Int) × (List Int) × (List Int)) → (List Int) → (List Int) → (List Int) → Option ((List Int) × Unit)) (plan2 : List Int) (t1 : Int) (c2 : (List Int) × (List Int) × (List Int) × (List Int)) (v41 : List Int) (out1 : List Int) (stocks1 : List Int) : Option ((List Int) × Unit) :=
  chk (inB 1 3) <|
  chk (inB t1 c2.2.2.1.length) <|
  chk (inB t1 plan2.length) <|
  chk (inB 1 3) <|
  chk (inB 2 3) <|
  chk (inB t1 c2.2.2.2.length) <|
  chk (inB t1 stocks1.length) <|
  chk (inB 2 3) <|
  kx plan2 (iadd .i64 t1 1) c2 v41 (List.set (List.set out1 1 (iadd .i64 (gd out1 1 0) (imul .i64 (gd c2.2.2.1 t1.toNat 0) (gd plan2 t1.toNat 0)))) 2 (iadd .i64 (gd (List.set out1 1 (iadd .i64 (gd out1 1 0) (imul .i64 (gd c2.2.2.1 t1.toNat 0) (gd plan2 t1.toNat 0)))) 2 0) (imul .i64 (gd c2.2.2.2 t1.toNat 0) (gd stocks1 t1.toNat 0)))) stocks1
def spec_l2Parts_K2 (N : Nat) (v42 : List Int) (out2 : List Int) : Option ((List Int) × Unit) :=
  some (out2, ())
def spec_l2Parts_B1 (N : Nat) (kx : (List Int) → Int → ((List Int) × (List Int) × (List Int) × (List Int)) → (List Int) → (List Int) → (List Int) → Option ((List Int) × Unit)) (plan1 : List Int) (t : Int) (c1 : (List Int) × (List Int) × (List Int) × (List Int)) (v4 : List Int) (out : List Int) (stocks : List Int) : Option ((List Int) × Unit) :=
  bif ilt t (len plan1) then
    chk (inB t plan1.length) <|
    bif ilt 0 (gd plan1 t.toNat 0) then
      chk (inB 0 3) <|
      chk (inB t c1.2.1.length) <|
      chk (inB 0 3) <|
      spec_l2Parts_K1 N kx plan1 t c1 v4 (List.set out 0 (iadd .i64 (gd out 0 0) (gd c1.2.1 t.toNat 0))) stocks
    else
      spec_l2Parts_K1 N kx plan1 t c1 v4 out stocks
  else
    spec_l2Parts_K2 N v4 out
def spec_l2Parts_L1 (N fu_ : Nat) (plan1 : List Int) (t : Int) (c1 : (List Int) × (List Int) × (List Int) × (List Int)) (v4 : List Int) (out : List Int) (stocks : List Int) : Option ((List Int) × Unit) :=
  iterK fu_ (fun kx (v_ : ((List Int) × Int × Unit) × (((List Int) × (List Int) × (List Int) × (List Int)) × (List Int) × (List Int) × (List Int) × Unit)) => spec_l2Parts_B1 N (fun plan1 t c1 v4 out stocks => kx ((plan1, t, ()), (c1, v4, out, stocks, ()))) v_.1.1 v_.1.2.1 v_.2.1 v_.2.2.1 v_.2.2.2.1 v_.2.2.2.2.1) ((plan1, t, ()), (c1, v4, out, stocks, ()))
theorem spec_l2Parts_L1_succ (N fu_ : Nat) (plan1 : List Int) (t : Int) (c1 : (List Int) × (List Int) × (List Int) × (List Int)) (v4 : List Int) (out : List Int) (stocks : List Int) : spec_l2Parts_L1 N (fu_ + 1) plan1 t c1 v4 out stocks = spec_l2Parts_B1 N (fun plan1 t c1 v4 out stocks => spec_l2Parts_L1 N fu_ plan1 t c1 v4 out stocks) plan1 t c1 v4 out stocks := rfl
theorem spec_l2Parts_L1_run (N : Nat) (plan1 : Nat → (List Int)) (t : Nat → Int) (c1 : Nat → ((List Int) × (List Int) × (List Int) × (List Int))) (v4 : Nat → (List Int)) (out : Nat → (List Int)) (stocks : Nat → (List Int)) (n_ : Nat) {res_ : Option ((List Int) × Unit)} (hstep_ : ∀ j_, j_ < n_ → ∀ kx_, spec_l2Parts_B1 N kx_ (plan1 j_) (t j_) (c1 j_) (v4 j_) (out j_) (stocks j_) = kx_ (plan1 (j_ + 1)) (t (j_ + 1)) (c1 (j_ + 1)) (v4 (j_ + 1)) (out (j_ + 1)) (stocks (j_ + 1))) (hend_ : ∀ kx_, spec_l2Parts_B1 N kx_ (plan1 n_) (t n_) (c1 n_) (v4 n_) (out n_) (stocks n_) = res_) (fu_ : Nat) (hm_ : n_ < fu_) : spec_l2Parts_L1 N fu_ (plan1 0) (t 0) (c1 0) (v4 0) (out 0) (stocks 0) = res_ := by
  exact loop_run (L := fun fu_ (x_ : (List Int) × Int × ((List Int) × (List Int) × (List Int) × (List Int)) × (List Int) × (List Int) × (List Int)) => spec_l2Parts_L1 N fu_ x_.1 x_.2.1 x_.2.2.1 x_.2.2.2.1 x_.2.2.2.2.1 x_.2.2.2.2.2) (B := fun kx_ x_ => spec_l2Parts_B1 N (fun plan1 t c1 v4 out stocks => kx_ (plan1, t, c1, v4, out, stocks)) x_.1 x_.2.1 x_.2.2.1 x_.2.2.2.1 x_.2.2.2.2.1 x_.2.2.2.2.2) (fun _ _ => rfl) (fun j_ => (plan1 j_, t j_, c1 j_, v4 j_, out j_, stocks j_)) n_ (fun j_ hi_ kx_ => hstep_ j_ hi_ _) (fun kx_ => hend_ _) fu_ hm_
def spec_l2Parts (N : Nat) (c : (List Int) × (List Int) × (List Int) × (List Int)) (plan : List Int) : Option ((List Int) × Unit) :=
  (spec_l2Stocks N c plan).bind fun r =>
  spec_l2Parts_L1 N N plan 0 c (List.replicate 3 0) (List.replicate 3 0) r.1
def spec_l2Cost (N : Nat) (c : (List Int) × (List Int) × (List Int) × (List Int)) (plan : List Int) : Option (Int × Unit) :=
  (spec_l2Parts N c plan).bind fun r =>
  chk (inB 0 3) <|
  chk (inB 1 3) <|
  chk (inB 2 3) <|
  some (iadd .i64 (iadd .i64 (gd r.1 0 0) (gd r.1 1 0)) (gd r.1 2 0), ())
def spec_l2Before_K1 (N : Nat) : Option (Bool × Unit) :=
  some (false, ())
def spec_l2Before_B1 (N : Nat) (kx : (List Int) → (List Int) → Int → Option (Bool × Unit)) (a1 : List Int) (b1 : List Int) (i : Int) : Option (Bool × Unit) :=
  bif ilt i (len a1) then
    chk (inB i a1.length) <|
    chk (inB i b1.length) <|
    bif ine (gd a1 i.toNat 0) (gd b1 i.toNat 0) then
      chk (inB i a1.length) <|
      chk (inB i b1.length) <|
      some (ilt (gd a1 i.toNat 0) (gd b1 i.toNat 0), ())
    else
      kx a1 b1 (iadd .i64 i 1)
  else
    spec_l2Before_K1 N
def spec_l2Before_L1 (N fu_ : Nat) (a1 : List Int) (b1 : List Int) (i : Int) : Option (Bool × Unit) :=
  iterK fu_ (fun kx (v_ : ((List Int) × (List Int) × Int × Unit) × (Unit)) => spec_l2Before_B1 N (fun a1 b1 i => kx ((a1, b1, i, ()), ())) v_.1.1 v_.1.2.1 v_.1.2.2.1) ((a1, b1, i, ()), ())
theorem spec_l2Before_L1_succ (N fu_ : Nat) (a1 : List Int) (b1 : List Int) (i : Int) : spec_l2Before_L1 N (fu_ + 1) a1 b1 i = spec_l2Before_B1 N (fun a1 b1 i => spec_l2Before_L1 N fu_ a1 b1 i) a1 b1 i := rfl
theorem spec_l2Before_L1_run (N : Nat) (a1 : Nat → (List Int)) (b1 : Nat → (List Int)) (i : Nat → Int) (n_ : Nat) {res_ : Option (Bool × Unit)} (hstep_ : ∀ j_, j_ < n_ → ∀ kx_, spec_l2Before_B1 N kx_ (a1 j_) (b1 j_) (i j_) = kx_ (a1 (j_ + 1)) (b1 (j_ + 1)) (i (j_ + 1))) (hend_ : ∀ kx_, spec_l2Before_B1 N kx_ (a1 n_) (b1 n_) (i n_) = res_) (fu_ : Nat) (hm_ : n_ < fu_) : spec_l2Before_L1 N fu_ (a1 0) (b1 0) (i 0) = res_ := by
  exact loop_run (L := fun fu_ (x_ : (List Int) × (List Int) × Int) => spec_l2Before_L1 N fu_ x_.1 x_.2.1 x_.2.2) (B := fun kx_ x_ => spec_l2Before_B1 N (fun a1 b1 i => kx_ (a1, b1, i)) x_.1 x_.2.1 x_.2.2) (fun _ _ => rfl) (fun j_ => (a1 j_, b1 j_, i j_)) n_ (fun j_ hi_ kx_ => hstep_ j_ hi_ _) (fun kx_ => hend_ _) fu_ hm_
def spec_l2Before (N : Nat) (a : List Int) (b : List Int) : Option (Bool × Unit) :=
  bif ine (len a) (len b) then
    some (ilt (len a) (len b), ())
  else
    spec_l2Before_L1 N N a b 0
def spec_l2Best_K1 (N : Nat) (best1 : List Int) : Option ((List Int) × Unit) :=
  some (best1, ())
def spec_l2Best_B1 (N : Nat) (kx : Int → Int → ((List Int) × (List Int) × (List Int) × (List Int)) → (List Int) → Option ((List Int) × Unit)) (least : Int) (code : Int) (c1 : (List Int) × (List Int) × (List Int) × (List Int)) (best : List Int) : Option ((List Int) × Unit) :=
  chk (ile 0 (len c1.1)) <|
  bif ilt code (ishl .i64 1 (len c1.1)) then
    (spec_l2Bits N (len c1.1) code).bind fun r =>
    (spec_l2Covers N c1 r.1).bind fun r1 =>
    bif !r1.1 then
      kx least (iadd .i64 code 1) c1 best
    else
      (spec_l2From N c1 r.1).bind fun r2 =>
      (spec_l2Cost N c1 r2.1).bind fun r3 =>
      bif ilt least 0 then
        kx r3.1 (iadd .i64 code 1) c1 r.1
      else
        bif ilt r3.1 least then
          kx r3.1 (iadd .i64 code 1) c1 r.1
        else
          bif ieq r3.1 least then
            (spec_l2Before N r.1 best).bind fun r4 =>
            bif r4.1 then
              kx r3.1 (iadd .i64 code 1) c1 r.1
            else
              kx least (iadd .i64 code 1) c1 best
          else
            kx least (iadd .i64 code 1) c1 best
  else
    spec_l2Best_K1 N best
def spec_l2Best_L1 (N fu_ : Nat) (least : Int) (code : Int) (c1 : (List Int) × (List Int) × (List Int) × (List Int)) (best : List Int) : Option ((List Int) × Unit) :=
  iterK fu_ (fun kx (v_ : (Int × Int × Unit) × (((List Int) × (List Int) × (List Int) × (List Int)) × (List Int) × Unit)) => spec_l2Best_B1 N (fun least code c1 best => kx ((least, code, ()), (c1, best, ()))) v_.1.1 v_.1.2.1 v_.2.1 v_.2.2.1) ((least, code, ()), (c1, best, ()))
theorem spec_l2Best_L1_succ (N fu_ : Nat) (least : Int) (code : Int) (c1 : (List Int) × (List Int) × (List Int) × (List Int)) (best : List Int) : spec_l2Best_L1 N (fu_ + 1) least code c1 best = spec_l2Best_B1 N (fun least code c1 best => spec_l2Best_L1 N fu_ least code c1 best) least code c1 best := rfl
theorem spec_l2Best_L1_run (N : Nat) (least : Nat → Int) (code : Nat → Int) (c1 : Nat → ((List Int) × (List Int) × (List Int) × (List Int))) (best : Nat → (List Int)) (n_ : Nat) {res_ : Option ((List Int) × Unit)} (hstep_ : ∀ j_, j_ < n_ → ∀ kx_, spec_l2Best_B1 N kx_ (least j_) (code j_) (c1 j_) (best j_) = kx_ (least (j_ + 1)) (code (j_ + 1)) (c1 (j_ + 1)) (best (j_ + 1))) (hend_ : ∀ kx_, spec_l2Best_B1 N kx_ (least n_) (code n_) (c1 n_) (best n_) = res_) (fu_ : Nat) (hm_ : n_ < fu_) : spec_l2Best_L1 N fu_ (least 0) (code 0) (c1 0) (best 0) = res_ := by
  exact loop_run (L := fun fu_ (x_ : Int × Int × ((List Int) × (List Int) × (List Int) × (List Int)) × (List Int)) => spec_l2Best_L1 N fu_ x_.1 x_.2.1 x_.2.2.1 x_.2.2.2) (B := fun kx_ x_ => spec_l2Best_B1 N (fun least code c1 best => kx_ (least, code, c1, best)) x_.1 x_.2.1 x_.2.2.1 x_.2.2.2) (fun _ _ => rfl) (fun j_ => (least j_, code j_, c1 j_, best j_)) n_ (fun j_ hi_ kx_ => hstep_ j_ hi_ _) (fun kx_ => hend_ _) fu_ hm_
def spec_l2Best (N : Nat) (c : (List Int) × (List Int) × (List Int) × (List Int)) : Option ((List Int) × Unit) :=
  spec_l2Best_L1 N N (-1) 0 c []
def spec_StagewisePlan_K1 (N : Nat) (out1 : List (List Int)) : Option (((List (List Int)) × Bool) × Unit) :=
  some ((out1, true), ())
def spec_StagewisePlan_B1 (N : Nat) (kx : (List Int) → Int → ((List Int) × (List Int) × (List Int)) → (List (List Int)) → Option (((List (List Int)) × Bool) × Unit)) (need : List Int) (s : Int) (c1 : (List Int) × (List Int) × (List Int)) (out : List (List Int)) : Option (((List (List Int)) × Bool) × Unit) :=
  bif ile 0 s then
    chk (inB s c1.2.1.length) <|
    chk (inB s c1.2.2.length) <|
    (spec_l7Case N need (gd c1.2.1 s.toNat 0) (gd c1.2.2 s.toNat 0)).bind fun r1 =>
    (spec_l2Good N r1.1).bind fun r2 =>
    bif !r2.1 then
      some (([], false), ())
    else
      (spec_l2Best N r1.1).bind fun r3 =>
      (spec_l2From N r1.1 r3.1).bind fun r4 =>
      chk (fitB (1 + out.length) 24) <|
      kx r4.1 (isub .i64 s 1) c1 ([r4.1] ++ out)
  else
    spec_StagewisePlan_K1 N out
def spec_StagewisePlan_L1 (N fu_ : Nat) (need : List Int) (s : Int) (c1 : (List Int) × (List Int) × (List Int)) (out : List (List Int)) : Option (((List (List Int)) × Bool) × Unit) :=
  iterK fu_ (fun kx (v_ : ((List Int) × Int × Unit) × (((List Int) × (List Int) × (List Int)) × (List (List Int)) × Unit)) => spec_StagewisePlan_B1 N (fun need s c1 out => kx ((need, s, ()), (c1, out, ()))) v_.1.1 v_.1.2.1 v_.2.1 v_.2.2.1) ((need, s, ()), (c1, out, ()))
theorem spec_StagewisePlan_L1_succ (N fu_ : Nat) (need : List Int) (s : Int) (c1 : (List Int) × (List Int) × (List Int)) (out : List (List Int)) : spec_StagewisePlan_L1 N (fu_ + 1) need s c1 out = spec_StagewisePlan_B1 N (fun need s c1 out => spec_StagewisePlan_L1 N fu_ need s c1 out) need s c1 out := rfl
theorem spec_StagewisePlan_L1_run (N : Nat) (need : Nat → (List Int)) (s : Nat → Int) (c1 : Nat → ((List Int) × (List Int) × (List Int))) (out : Nat → (List (List Int))) (n_ : Nat) {res_ : Option (((List (List Int)) × Bool) × Unit)} (hstep_ : ∀ j_, j_ < n_ → ∀ kx_, spec_StagewisePlan_B1 N kx_ (need j_) (s j_) (c1 j_) (out j_) = kx_ (need (j_ + 1)) (s (j_ + 1)) (c1 (j_ + 1)) (out (j_ + 1))) (hend_ : ∀ kx_, spec_StagewisePlan_B1 N kx_ (need n_) (s n_) (c1 n_) (out n_) = res_) (fu_ : Nat) (hm_ : n_ < fu_) : spec_StagewisePlan_L1 N fu_ (need 0) (s 0) (c1 0) (out 0) = res_ := by
  exact loop_run (L := fun fu_ (x_ : (List Int) × Int × ((List Int) × (List Int) × (List Int)) × (List (List Int))) => spec_StagewisePlan_L1 N fu_ x_.1 x_.2.1 x_.2.2.1 x_.2.2.2) (B := fun kx_ x_ => spec_StagewisePlan_B1 N (fun need s c1 out => kx_ (need, s, c1, out)) x_.1 x_.2.1 x_.2.2.1 x_.2.2.2) (fun _ _ => rfl) (fun j_ => (need j_, s j_, c1 j_, out j_)) n_ (fun j_ hi_ kx_ => hstep_ j_ hi_ _) (fun kx_ => hend_ _) fu_ hm_
def spec_StagewisePlan (N : Nat) (c : (List Int) × (List Int) × (List Int)) : Option (((List (List Int)) × Bool) × Unit) :=
  (spec_l7Good N c).bind fun r =>
  bif !r.1 then
    some (([], false), ())
  else
    spec_StagewisePlan_L1 N N c.1 (isub .i64 (len c.2.1) 1) c []
def impl_within (N : Nat) (n : Int) (low : Int) (high : Int) : Option (Bool × Unit) :=
  bif ile low n then
    some (ile n high, ())
  else
    some (false, ())
def impl_allWithin_K1 (N : Nat) : Option (Bool × Unit) :=
  some (true, ())
def impl_allWithin_B1 (N : Nat) (kx : Int → Int → (List Int) → Int → Int → Option (Bool × Unit)) (low1 : Int) (high1 : Int) (v9 : List Int) (v10 : Int) (v11 : Int) : Option (Bool × Unit) :=
  bif ilt v11 v10 then
    chk (inB v11 v9.length) <|
    (impl_within N (gd v9 v11.toNat 0) low1 high1).bind fun r =>
    bif !r.1 then
      some (false, ())
    else
      kx low1 high1 v9 v10 (iadd .i64 v11 1)
  else
    impl_allWithin_K1 N
def impl_allWithin_L1 (N fu_ : Nat) (low1 : Int) (high1 : Int) (v9 : List Int) (v10 : Int) (v11 : Int) : Option (Bool × Unit) :=
  iterK fu_ (fun kx (v_ : (Int × Int × (List Int) × Int × Int × Unit) × (Unit)) => impl_allWithin_B1 N (fun low1 high1 v9 v10 v11 => kx ((low1, high1, v9, v10, v11, ()), ())) v_.1.1 v_.1.2.1 v_.1.2.2.1 v_.1.2.2.2.1 v_.1.2.2.2.2.1) ((low1, high1, v9, v10, v11, ()), ())
theorem impl_allWithin_L1_succ (N fu_ : Nat) (low1 : Int) (high1 : Int) (v9 : List Int) (v10 : Int) (v11 : Int) : impl_allWithin_L1 N (fu_ + 1) low1 high1 v9 v10 v11 = impl_allWithin_B1 N (fun low1 high1 v9 v10 v11 => impl_allWithin_L1 N fu_ low1 high1 v9 v10 v11) low1 high1 v9 v10 v11 := rfl
theorem impl_allWithin_L1_run (N : Nat) (low1 : Nat → Int) (high1 : Nat → Int) (v9 : Nat → (List Int)) (v10 : Nat → Int) (v11 : Nat → Int) (n_ : Nat) {res_ : Option (Bool × Unit)} (hstep_ : ∀ j_, j_ < n_ → ∀ kx_, impl_allWithin_B1 N kx_ (low1 j_) (high1 j_) (v9 j_) (v10 j_) (v11 j_) = kx_ (low1 (j_ + 1)) (high1 (j_ + 1)) (v9 (j_ + 1)) (v10 (j_ + 1)) (v11 (j_ + 1))) (hend_ : ∀ kx_, impl_allWithin_B1 N kx_ (low1 n_) (high1 n_) (v9 n_) (v10 n_) (v11 n_) = res_) (fu_ : Nat) (hm_ : n_ < fu_) : impl_allWithin_L1 N fu_ (low1 0) (high1 0) (v9 0) (v10 0) (v11 0) = res_ := by
  exact loop_run (L := fun fu_ (x_ : Int × Int × (List Int) × Int × Int) => impl_allWithin_L1 N fu_ x_.1 x_.2.1 x_.2.2.1 x_.2.2.2.1 x_.2.2.2.2) (B := fun kx_ x_ => impl_allWithin_B1 N (fun low1 high1 v9 v10 v11 => kx_ (low1, high1, v9, v10, v11)) x_.1 x_.2.1 x_.2.2.1 x_.2.2.2.1 x_.2.2.2.2) (fun _ _ => rfl) (fun j_ => (low1 j_, high1 j_, v9 j_, v10 j_, v11 j_)) n_ (fun j_ hi_ kx_ => hstep_ j_ hi_ _) (fun kx_ => hend_ _) fu_ hm_
def impl_allWithin (N : Nat) (list : List Int) (low : Int) (high : Int) : Option (Bool × Unit) :=
  impl_allWithin_L1 N N low high list (len list) 0
def cmp_isNaN_int (N : Nat) (x : Int) : Option (Bool × Unit) :=
  some (ine x x, ())
def cmp_Less_int (N : Nat) (x : Int) (y : Int) : Option (Bool × Unit) :=
  (cmp_isNaN_int N x).bind fun r =>
  bif r.1 then
    (cmp_isNaN_int N y).bind fun r1 =>
    bif !r1.1 then
      some (true, ())
    else
      some (ilt x y, ())
  else
    some (ilt x y, ())
def slices_IsSorted_int_int_K1 (N : Nat) : Option (Bool × Unit) :=
  some (true, ())
def slices_IsSorted_int_int_B1 (N : Nat) (kx : (List Int) → Int → Option (Bool × Unit)) (x1 : List Int) (i : Int) : Option (Bool × Unit) :=
  bif ilt 0 i then
    chk (inB i x1.length) <|
    chk (inB (isub .i64 i 1) x1.length) <|
    (cmp_Less_int N (gd x1 i.toNat 0) (gd x1 (isub .i64 i 1).toNat 0)).bind fun r =>
    bif r.1 then
      some (false, ())
    else
      kx x1 (isub .i64 i 1)
  else
    slices_IsSorted_int_int_K1 N
def slices_IsSorted_int_int_L1 (N fu_ : Nat) (x1 : List Int) (i : Int) : Option (Bool × Unit) :=
  iterK fu_ (fun kx (v_ : ((List Int) × Int × Unit) × (Unit)) => slices_IsSorted_int_int_B1 N (fun x1 i => kx ((x1, i, ()), ())) v_.1.1 v_.1.2.1) ((x1, i, ()), ())
theorem slices_IsSorted_int_int_L1_succ (N fu_ : Nat) (x1 : List Int) (i : Int) : slices_IsSorted_int_int_L1 N (fu_ + 1) x1 i = slices_IsSorted_int_int_B1 N (fun x1 i => slices_IsSorted_int_int_L1 N fu_ x1 i) x1 i := rfl
theorem slices_IsSorted_int_int_L1_run (N : Nat) (x1 : Nat → (List Int)) (i : Nat → Int) (n_ : Nat) {res_ : Option (Bool × Unit)} (hstep_ : ∀ j_, j_ < n_ → ∀ kx_, slices_IsSorted_int_int_B1 N kx_ (x1 j_) (i j_) = kx_ (x1 (j_ + 1)) (i (j_ + 1))) (hend_ : ∀ kx_, slices_IsSorted_int_int_B1 N kx_ (x1 n_) (i n_) = res_) (fu_ : Nat) (hm_ : n_ < fu_) : slices_IsSorted_int_int_L1 N fu_ (x1 0) (i 0) = res_ := by
  exact loop_run (L := fun fu_ (x_ : (List Int) × Int) => slices_IsSorted_int_int_L1 N fu_ x_.1 x_.2) (B := fun kx_ x_ => slices_IsSorted_int_int_B1 N (fun x1 i => kx_ (x1, i)) x_.1 x_.2) (fun _ _ => rfl) (fun j_ => (x1 j_, i j_)) n_ (fun j_ hi_ kx_ => hstep_ j_ hi_ _) (fun kx_ => hend_ _) fu_ hm_
def slices_IsSorted_int_int (N : Nat) (x : List Int) : Option (Bool × Unit) :=
  slices_IsSorted_int_int_L1 N N x (isub .i64 (len x) 1)
def impl_IsChain (N : Nat) (c : (List Int) × (List Int) × (List Int)) : Option (Bool × Unit) :=
  bif ile (len c.1) 6 then
    (impl_allWithin N c.1 0 20).bind fun r =>
    bif r.1 then
      (impl_within N (len c.2.1) 1 3).bind fun r1 =>
      bif r1.1 then
        bif ieq (len c.2.2) (len c.2.1) then
          (impl_allWithin N c.2.1 0 99).bind fun r2 =>
          bif r2.1 then
            (impl_allWithin N c.2.2 0 9).bind fun r3 =>
            bif r3.1 then
              (slices_IsSorted_int_int N c.2.2).bind fun r4 =>
              some (r4.1, ())
            else
              some (false, ())
          else
            some (false, ())
        else
          some (false, ())
      else
        some (false, ())
    else
      some (false, ())
  else
    some (false, ())
def impl_copied (N : Nat) (list : List Int) : Option ((List Int) × Unit) :=
  chk (fitB (0 + list.length) 8) <|
  some (list, ())
def impl_evenCase_K1 (N : Nat) (v61 : (List Int) × (List Int) × (List Int) × (List Int)) (c1 : (List Int) × (List Int) × (List Int) × (List Int)) : Option (((List Int) × (List Int) × (List Int) × (List Int)) × Unit) :=
  some (c1, ())
def impl_evenCase_B1 (N : Nat) (kx : Int → Int → Int → Int → ((List Int) × (List Int) × (List Int) × (List Int)) → ((List Int) × (List Int) × (List Int) × (List Int)) → Option (((List Int) × (List Int) × (List Int) × (List Int)) × Unit)) (setup1 : Int) (hold1 : Int) (v15 : Int) (v16 : Int) (v6 : (List Int) × (List Int) × (List Int) × (List Int)) (c : (List Int) × (List Int) × (List Int) × (List Int)) : Option (((List Int) × (List Int) × (List Int) × (List Int)) × Unit) :=
  bif ilt v16 v15 then
    chk (fitB (c.2.1.length + 1) 8) <|
    chk (fitB (c.2.2.2.length + 1) 8) <|
    kx setup1 hold1 v15 (iadd .i64 v16 1) v6 (c.1, (c.2.1 ++ [setup1], (c.2.2.1, c.2.2.2 ++ [hold1])))
  else
    impl_evenCase_K1 N v6 c
def impl_evenCase_L1 (N fu_ : Nat) (setup1 : Int) (hold1 : Int) (v15 : Int) (v16 : Int) (v6 : (List Int) × (List Int) × (List Int) × (List Int)) (c : (List Int) × (List Int) × (List Int) × (List Int)) : Option (((List Int) × (List Int) × (List Int) × (List Int)) × Unit) :=
  iterK fu_ (fun kx (v_ : (Int × Int × Int × Int × Unit) × (((List Int) × (List Int) × (List Int) × (List Int)) × ((List Int) × (List Int) × (List Int) × (List Int)) × Unit)) => impl_evenCase_B1 N (fun setup1 hold1 v15 v16 v6 c => kx ((setup1, hold1, v15, v16, ()), (v6, c, ()))) v_.1.1 v_.1.2.1 v_.1.2.2.1 v_.1.2.2.2.1 v_.2.1 v_.2.2.1) ((setup1, hold1, v15, v16, ()), (v6, c, ()))
theorem impl_evenCase_L1_succ (N fu_ : Nat) (setup1 : Int) (hold1 : Int) (v15 : Int) (v16 : Int) (v6 : (List Int) × (List Int) × (List Int) × (List Int)) (c : (List Int) × (List Int) × (List Int) × (List Int)) : impl_evenCase_L1 N (fu_ + 1) setup1 hold1 v15 v16 v6 c = impl_evenCase_B1 N (fun setup1 hold1 v15 v16 v6 c => impl_evenCase_L1 N fu_ setup1 hold1 v15 v16 v6 c) setup1 hold1 v15 v16 v6 c := rfl
theorem impl_evenCase_L1_run (N : Nat) (setup1 : Nat → Int) (hold1 : Nat → Int) (v15 : Nat → Int) (v16 : Nat → Int) (v6 : Nat → ((List Int) × (List Int) × (List Int) × (List Int))) (c : Nat → ((List Int) × (List Int) × (List Int) × (List Int))) (n_ : Nat) {res_ : Option (((List Int) × (List Int) × (List Int) × (List Int)) × Unit)} (hstep_ : ∀ j_, j_ < n_ → ∀ kx_, impl_evenCase_B1 N kx_ (setup1 j_) (hold1 j_) (v15 j_) (v16 j_) (v6 j_) (c j_) = kx_ (setup1 (j_ + 1)) (hold1 (j_ + 1)) (v15 (j_ + 1)) (v16 (j_ + 1)) (v6 (j_ + 1)) (c (j_ + 1))) (hend_ : ∀ kx_, impl_evenCase_B1 N kx_ (setup1 n_) (hold1 n_) (v15 n_) (v16 n_) (v6 n_) (c n_) = res_) (fu_ : Nat) (hm_ : n_ < fu_) : impl_evenCase_L1 N fu_ (setup1 0) (hold1 0) (v15 0) (v16 0) (v6 0) (c 0) = res_ := by
  exact loop_run (L := fun fu_ (x_ : Int × Int × Int × Int × ((List Int) × (List Int) × (List Int) × (List Int)) × ((List Int) × (List Int) × (List Int) × (List Int))) => impl_evenCase_L1 N fu_ x_.1 x_.2.1 x_.2.2.1 x_.2.2.2.1 x_.2.2.2.2.1 x_.2.2.2.2.2) (B := fun kx_ x_ => impl_evenCase_B1 N (fun setup1 hold1 v15 v16 v6 c => kx_ (setup1, hold1, v15, v16, v6, c)) x_.1 x_.2.1 x_.2.2.1 x_.2.2.2.1 x_.2.2.2.2.1 x_.2.2.2.2.2) (fun _ _ => rfl) (fun j_ => (setup1 j_, hold1 j_, v15 j_, v16 j_, v6 j_, c j_)) n_ (fun j_ hi_ kx_ => hstep_ j_ hi_ _) (fun kx_ => hend_ _) fu_ hm_
def impl_evenCase (N : Nat) (need : List Int) (setup : Int) (hold : Int) : Option (((List Int) × (List Int) × (List Int) × (List Int)) × Unit) :=
  (impl_copied N need).bind fun r =>
  chk (mkB (len need) 8) <|
  impl_evenCase_L1 N N setup hold (len need) 0 ([], ([], ([], []))) (r.1, ([], (List.replicate (len need).toNat 0, [])))
def impl_Case_planFrom_K1 (N : Nat) (kx : (List Int) → Int → (List Int) → Int → Int → (List Int) → Option (((List Int) × Bool) × Unit)) (periods3 : List Int) (next2 : Int) (need1 : Int) (v152 : List Int) (v162 : Int) (v172 : Int) (plan2 : List Int) : Option (((List Int) × Bool) × Unit) :=
  bif ieq next2 0 then
    bif ilt 0 need1 then
      some (([], false), ())
    else
      kx periods3 next2 v152 v162 (iadd .i64 v172 1) plan2
  else
    chk (inB (isub .i64 next2 1) periods3.length) <|
    chk (inB (gd periods3 (isub .i64 next2 1).toNat 0) plan2.length) <|
    chk (inB (gd periods3 (isub .i64 next2 1).toNat 0) plan2.length) <|
    kx periods3 next2 v152 v162 (iadd .i64 v172 1) (List.set plan2 (gd periods3 (isub .i64 next2 1).toNat 0).toNat (iadd .i64 (gd plan2 (gd periods3 (isub .i64 next2 1).toNat 0).toNat 0) need1))
def impl_Case_planFrom_K2 (N : Nat) (kx : (List Int) → Int → (List Int) → Int → Int → (List Int) → Option (((List Int) × Bool) × Unit)) (periods2 : List Int) (next1 : Int) (need : Int) (v151 : List Int) (v161 : Int) (v171 : Int) (v33 : Bool) (plan1 : List Int) : Option (((List Int) × Bool) × Unit) :=
  bif v33 then
    impl_Case_planFrom_K1 N kx periods2 (iadd .i64 next1 1) need v151 v161 v171 plan1
  else
    impl_Case_planFrom_K1 N kx periods2 next1 need v151 v161 v171 plan1
def impl_Case_planFrom_K3 (N : Nat) (plan3 : List Int) : Option (((List Int) × Bool) × Unit) :=
  some ((plan3, true), ())
def impl_Case_planFrom_B1 (N : Nat) (kx : (List Int) → Int → (List Int) → Int → Int → (List Int) → Option (((List Int) × Bool) × Unit)) (periods1 : List Int) (next : Int) (v15 : List Int) (v16 : Int) (v17 : Int) (plan : List Int) : Option (((List Int) × Bool) × Unit) :=
  bif ilt v17 v16 then
    chk (inB v17 v15.length) <|
    bif ilt next (len periods1) then
      chk (inB next periods1.length) <|
      impl_Case_planFrom_K2 N kx periods1 next (gd v15 v17.toNat 0) v15 v16 v17 (ieq (gd periods1 next.toNat 0) v17) plan
    else
      impl_Case_planFrom_K2 N kx periods1 next (gd v15 v17.toNat 0) v15 v16 v17 false plan
  else
    impl_Case_planFrom_K3 N plan
def impl_Case_planFrom_L1 (N fu_ : Nat) (periods1 : List Int) (next : Int) (v15 : List Int) (v16 : Int) (v17 : Int) (plan : List Int) : Option (((List Int) × Bool) × Unit) :=
  iterK fu_ (fun kx (v_ : ((List Int) × Int × (List Int) × Int × Int × Unit) × ((List Int) × Unit)) => impl_Case_planFrom_B1 N (fun periods1 next v15 v16 v17 plan => kx ((periods1, next, v15, v16, v17, ()), (plan, ()))) v_.1.1 v_.1.2.1 v_.1.2.2.1 v_.1.2.2.2.1 v_.1.2.2.2.2.1 v_.2.1) ((periods1, next, v15, v16, v17, ()), (plan, ()))
theorem impl_Case_planFrom_L1_succ (N fu_ : Nat) (periods1 : List Int) (next : Int) (v15 : List Int) (v16 : Int) (v17 : Int) (plan : List Int) : impl_Case_planFrom_L1 N (fu_ + 1) periods1 next v15 v16 v17 plan = impl_Case_planFrom_B1 N (fun periods1 next v15 v16 v17 plan => impl_Case_planFrom_L1 N fu_ periods1 next v15 v16 v17 plan) periods1 next v15 v16 v17 plan := rfl
theorem impl_Case_planFrom_L1_run (N : Nat) (periods1 : Nat → (List Int)) (next : Nat → Int) (v15 : Nat → (List Int)) (v16 : Nat → Int) (v17 : Nat → Int) (plan : Nat → (List Int)) (n_ : Nat) {res_ : Option (((List Int) × Bool) × Unit)} (hstep_ : ∀ j_, j_ < n_ → ∀ kx_, impl_Case_planFrom_B1 N kx_ (periods1 j_) (next j_) (v15 j_) (v16 j_) (v17 j_) (plan j_) = kx_ (periods1 (j_ + 1)) (next (j_ + 1)) (v15 (j_ + 1)) (v16 (j_ + 1)) (v17 (j_ + 1)) (plan (j_ + 1))) (hend_ : ∀ kx_, impl_Case_planFrom_B1 N kx_ (periods1 n_) (next n_) (v15 n_) (v16 n_) (v17 n_) (plan n_) = res_) (fu_ : Nat) (hm_ : n_ < fu_) : impl_Case_planFrom_L1 N fu_ (periods1 0) (next 0) (v15 0) (v16 0) (v17 0) (plan 0) = res_ := by
  exact loop_run (L := fun fu_ (x_ : (List Int) × Int × (List Int) × Int × Int × (List Int)) => impl_Case_planFrom_L1 N fu_ x_.1 x_.2.1 x_.2.2.1 x_.2.2.2.1 x_.2.2.2.2.1 x_.2.2.2.2.2) (B := fun kx_ x_ => impl_Case_planFrom_B1 N (fun periods1 next v15 v16 v17 plan => kx_ (periods1, next, v15, v16, v17, plan)) x_.1 x_.2.1 x_.2.2.1 x_.2.2.2.1 x_.2.2.2.2.1 x_.2.2.2.2.2) (fun _ _ => rfl) (fun j_ => (periods1 j_, next j_, v15 j_, v16 j_, v17 j_, plan j_)) n_ (fun j_ hi_ kx_ => hstep_ j_ hi_ _) (fun kx_ => hend_ _) fu_ hm_
def impl_Case_planFrom (N : Nat) (c : (List Int) × (List Int) × (List Int) × (List Int)) (periods : List Int) : Option (((List Int) × Bool) × Unit) :=
  chk (mkB (len c.1) 8) <|
  impl_Case_planFrom_L1 N N periods 0 c.1 (len c.1) 0 (List.replicate (len c.1).toNat 0)
def impl_Case_parts_K1 (N : Nat) (kx : Int → Int → Int → Int → (List Int) → Int → Int → ((List Int) × (List Int) × (List Int) × (List Int)) → Option ((Int × Int × Int) × Unit)) (setups1 : Int) (units1 : Int) (holds1 : Int) (stock1 : Int) (i : Int) (amount : Int) (v131 : List Int) (v141 : Int) (v151 : Int) (c2 : (List Int) × (List Int) × (List Int) × (List Int)) : Option ((Int × Int × Int) × Unit) :=
  chk (inB i c2.2.2.1.length) <|
  chk (inB i c2.2.2.2.length) <|
  kx setups1 (iadd .i64 units1 (imul .i64 (gd c2.2.2.1 i.toNat 0) amount)) (iadd .i64 holds1 (imul .i64 (gd c2.2.2.2 i.toNat 0) stock1)) stock1 v131 v141 (iadd .i64 v151 1) c2
def impl_Case_parts_K2 (N : Nat) (setups2 : Int) (units2 : Int) (holds2 : Int) : Option ((Int × Int × Int) × Unit) :=
  some ((setups2, (units2, holds2)), ())
def impl_Case_parts_B1 (N : Nat) (kx : Int → Int → Int → Int → (List Int) → Int → Int → ((List Int) × (List Int) × (List Int) × (List Int)) → Option ((Int × Int × Int) × Unit)) (setups : Int) (units : Int) (holds : Int) (stock : Int) (v13 : List Int) (v14 : Int) (v15 : Int) (c1 : (List Int) × (List Int) × (List Int) × (List Int)) : Option ((Int × Int × Int) × Unit) :=
  bif ilt v15 v14 then
    chk (inB v15 v13.length) <|
    chk (inB v15 c1.1.length) <|
    bif ilt 0 (gd v13 v15.toNat 0) then
      chk (inB v15 c1.2.1.length) <|
      impl_Case_parts_K1 N kx (iadd .i64 setups (gd c1.2.1 v15.toNat 0)) units holds (iadd .i64 stock (isub .i64 (gd v13 v15.toNat 0) (gd c1.1 v15.toNat 0))) v15 (gd v13 v15.toNat 0) v13 v14 v15 c1
    else
      impl_Case_parts_K1 N kx setups units holds (iadd .i64 stock (isub .i64 (gd v13 v15.toNat 0) (gd c1.1 v15.toNat 0))) v15 (gd v13 v15.toNat 0) v13 v14 v15 c1
  else
    impl_Case_parts_K2 N setups units holds
def impl_Case_parts_L1 (N fu_ : Nat) (setups : Int) (units : Int) (holds : Int) (stock : Int) (v13 : List Int) (v14 : Int) (v15 : Int) (c1 : (List Int) × (List Int) × (List Int) × (List Int)) : Option ((Int × Int × Int) × Unit) :=
  iterK fu_ (fun kx (v_ : (Int × Int × Int × Int × (List Int) × Int × Int × Unit) × (((List Int) × (List Int) × (List Int) × (List Int)) × Unit)) => impl_Case_parts_B1 N (fun setups units holds stock v13 v14 v15 c1 => kx ((setups, units, holds, stock, v13, v14, v15, ()), (c1, ()))) v_.1.1 v_.1.2.1 v_.1.2.2.1 v_.1.2.2.2.1 v_.1.2.2.2.2.1 v_.1.2.2.2.2.2.1 v_.1.2.2.2.2.2.2.1 v_.2.1) ((setups, units, holds, stock, v13, v14, v15, ()), (c1, ()))
theorem impl_Case_parts_L1_succ (N fu_ : Nat) (setups : Int) (units : Int) (holds : Int) (stock : Int) (v13 : List Int) (v14 : Int) (v15 : Int) (c1 : (List Int) × (List Int) × (List Int) × (List Int)) : impl_Case_parts_L1 N (fu_ + 1) setups units holds stock v13 v14 v15 c1 = impl_Case_parts_B1 N (fun setups units holds stock v13 v14 v15 c1 => impl_Case_parts_L1 N fu_ setups units holds stock v13 v14 v15 c1) setups units holds stock v13 v14 v15 c1 := rfl
theorem impl_Case_parts_L1_run (N : Nat) (setups : Nat → Int) (units : Nat → Int) (holds : Nat → Int) (stock : Nat → Int) (v13 : Nat → (List Int)) (v14 : Nat → Int) (v15 : Nat → Int) (c1 : Nat → ((List Int) × (List Int) × (List Int) × (List Int))) (n_ : Nat) {res_ : Option ((Int × Int × Int) × Unit)} (hstep_ : ∀ j_, j_ < n_ → ∀ kx_, impl_Case_parts_B1 N kx_ (setups j_) (units j_) (holds j_) (stock j_) (v13 j_) (v14 j_) (v15 j_) (c1 j_) = kx_ (setups (j_ + 1)) (units (j_ + 1)) (holds (j_ + 1)) (stock (j_ + 1)) (v13 (j_ + 1)) (v14 (j_ + 1)) (v15 (j_ + 1)) (c1 (j_ + 1))) (hend_ : ∀ kx_, impl_Case_parts_B1 N kx_ (setups n_) (units n_) (holds n_) (stock n_) (v13 n_) (v14 n_) (v15 n_) (c1 n_) = res_) (fu_ : Nat) (hm_ : n_ < fu_) : impl_Case_parts_L1 N fu_ (setups 0) (units 0) (holds 0) (stock 0) (v13 0) (v14 0) (v15 0) (c1 0) = res_ := by
  exact loop_run (L := fun fu_ (x_ : Int × Int × Int × Int × (List Int) × Int × Int × ((List Int) × (List Int) × (List Int) × (List Int))) => impl_Case_parts_L1 N fu_ x_.1 x_.2.1 x_.2.2.1 x_.2.2.2.1 x_.2.2.2.2.1 x_.2.2.2.2.2.1 x_.2.2.2.2.2.2.1 x_.2.2.2.2.2.2.2) (B := fun kx_ x_ => impl_Case_parts_B1 N (fun setups units holds stock v13 v14 v15 c1 => kx_ (setups, units, holds, stock, v13, v14, v15, c1)) x_.1 x_.2.1 x_.2.2.1 x_.2.2.2.1 x_.2.2.2.2.1 x_.2.2.2.2.2.1 x_.2.2.2.2.2.2.1 x_.2.2.2.2.2.2.2) (fun _ _ => rfl) (fun j_ => (setups j_, units j_, holds j_, stock j_, v13 j_, v14 j_, v15 j_, c1 j_)) n_ (fun j_ hi_ kx_ => hstep_ j_ hi_ _) (fun kx_ => hend_ _) fu_ hm_
def impl_Case_parts (N : Nat) (c : (List Int) × (List Int) × (List Int) × (List Int)) (plan : List Int) : Option ((Int × Int × Int) × Unit) :=
  impl_Case_parts_L1 N N 0 0 0 0 plan (len plan) 0 c
def impl_Case_cost (N : Nat) (c : (List Int) × (List Int) × (List Int) × (List Int)) (plan : List Int) : Option (Int × Unit) :=
  (impl_Case_parts N c plan).bind fun r =>
  some (iadd .i64 (iadd .i64 r.1.1 r.1.2.1) r.1.2.2, ())
def cmp_Compare_int (N : Nat) (x : Int) (y : Int) : Option (Int × Unit) :=
  (cmp_isNaN_int N x).bind fun r =>
  (cmp_isNaN_int N y).bind fun r1 =>
  bif r.1 then
    bif r1.1 then
      some (0, ())
    else
      some ((-1), ())
  else
    bif r1.1 then
      some (1, ())
    else
      bif ilt x y then
        some ((-1), ())
      else
        bif ilt y x then
          some (1, ())
        else
          some (0, ())
def slices_Compare_int_int_K1 (N : Nat) (s12 : List Int) (s22 : List Int) : Option (Int × Unit) :=
  bif ilt (len s12) (len s22) then
    some ((-1), ())
  else
    some (0, ())
def slices_Compare_int_int_B1 (N : Nat) (kx : (List Int) → (List Int) → (List Int) → Int → Int → Option (Int × Unit)) (s11 : List Int) (s21 : List Int) (v9 : List Int) (v10 : Int) (v11 : Int) : Option (Int × Unit) :=
  bif ilt v11 v10 then
    chk (inB v11 v9.length) <|
    bif ile (len s21) v11 then
      some (1, ())
    else
      chk (inB v11 s21.length) <|
      (cmp_Compare_int N (gd v9 v11.toNat 0) (gd s21 v11.toNat 0)).bind fun r =>
      bif ine r.1 0 then
        some (r.1, ())
      else
        kx s11 s21 v9 v10 (iadd .i64 v11 1)
  else
    slices_Compare_int_int_K1 N s11 s21
def slices_Compare_int_int_L1 (N fu_ : Nat) (s11 : List Int) (s21 : List Int) (v9 : List Int) (v10 : Int) (v11 : Int) : Option (Int × Unit) :=
  iterK fu_ (fun kx (v_ : ((List Int) × (List Int) × (List Int) × Int × Int × Unit) × (Unit)) => slices_Compare_int_int_B1 N (fun s11 s21 v9 v10 v11 => kx ((s11, s21, v9, v10, v11, ()), ())) v_.1.1 v_.1.2.1 v_.1.2.2.1 v_.1.2.2.2.1 v_.1.2.2.2.2.1) ((s11, s21, v9, v10, v11, ()), ())
theorem slices_Compare_int_int_L1_succ (N fu_ : Nat) (s11 : List Int) (s21 : List Int) (v9 : List Int) (v10 : Int) (v11 : Int) : slices_Compare_int_int_L1 N (fu_ + 1) s11 s21 v9 v10 v11 = slices_Compare_int_int_B1 N (fun s11 s21 v9 v10 v11 => slices_Compare_int_int_L1 N fu_ s11 s21 v9 v10 v11) s11 s21 v9 v10 v11 := rfl
theorem slices_Compare_int_int_L1_run (N : Nat) (s11 : Nat → (List Int)) (s21 : Nat → (List Int)) (v9 : Nat → (List Int)) (v10 : Nat → Int) (v11 : Nat → Int) (n_ : Nat) {res_ : Option (Int × Unit)} (hstep_ : ∀ j_, j_ < n_ → ∀ kx_, slices_Compare_int_int_B1 N kx_ (s11 j_) (s21 j_) (v9 j_) (v10 j_) (v11 j_) = kx_ (s11 (j_ + 1)) (s21 (j_ + 1)) (v9 (j_ + 1)) (v10 (j_ + 1)) (v11 (j_ + 1))) (hend_ : ∀ kx_, slices_Compare_int_int_B1 N kx_ (s11 n_) (s21 n_) (v9 n_) (v10 n_) (v11 n_) = res_) (fu_ : Nat) (hm_ : n_ < fu_) : slices_Compare_int_int_L1 N fu_ (s11 0) (s21 0) (v9 0) (v10 0) (v11 0) = res_ := by
  exact loop_run (L := fun fu_ (x_ : (List Int) × (List Int) × (List Int) × Int × Int) => slices_Compare_int_int_L1 N fu_ x_.1 x_.2.1 x_.2.2.1 x_.2.2.2.1 x_.2.2.2.2) (B := fun kx_ x_ => slices_Compare_int_int_B1 N (fun s11 s21 v9 v10 v11 => kx_ (s11, s21, v9, v10, v11)) x_.1 x_.2.1 x_.2.2.1 x_.2.2.2.1 x_.2.2.2.2) (fun _ _ => rfl) (fun j_ => (s11 j_, s21 j_, v9 j_, v10 j_, v11 j_)) n_ (fun j_ hi_ kx_ => hstep_ j_ hi_ _) (fun kx_ => hend_ _) fu_ hm_
def slices_Compare_int_int (N : Nat) (s1 : List Int) (s2 : List Int) : Option (Int × Unit) :=
  slices_Compare_int_int_L1 N N s1 s2 s1 (len s1) 0
def impl_Case_best_K1 (N : Nat) (kx : Int → Int → Int → ((List Int) × (List Int) × (List Int) × (List Int)) → (List Int) → Option (((List Int) × Int) × Unit)) (least3 : Int) (cost : Int) (before : Bool) (v163 : Int) (v173 : Int) (c4 : (List Int) × (List Int) × (List Int) × (List Int)) (best3 : List Int) (periods2 : List Int) : Option (((List Int) × Int) × Unit) :=
  bif ilt least3 0 then
    kx cost v163 (iadd .i64 v173 1) c4 periods2
  else
    bif ilt cost least3 then
      kx cost v163 (iadd .i64 v173 1) c4 periods2
    else
      bif ieq cost least3 then
        bif before then
          kx cost v163 (iadd .i64 v173 1) c4 periods2
        else
          kx least3 v163 (iadd .i64 v173 1) c4 best3
      else
        kx least3 v163 (iadd .i64 v173 1) c4 best3
def impl_Case_best_K2 (N : Nat) (kx : Int → Int → Int → ((List Int) × (List Int) × (List Int) × (List Int)) → (List Int) → Option (((List Int) × Int) × Unit)) (least2 : Int) (v162 : Int) (v172 : Int) (c3 : (List Int) × (List Int) × (List Int) × (List Int)) (best2 : List Int) (periods1 : List Int) : Option (((List Int) × Int) × Unit) :=
  (impl_Case_planFrom N c3 periods1).bind fun r =>
  bif !r.1.2 then
    kx least2 v162 (iadd .i64 v172 1) c3 best2
  else
    (impl_Case_cost N c3 r.1.1).bind fun r1 =>
    bif ilt (len periods1) (len best2) then
      impl_Case_best_K1 N kx least2 r1.1 true v162 v172 c3 best2 periods1
    else
      bif ieq (len periods1) (len best2) then
        (slices_Compare_int_int N periods1 best2).bind fun r2 =>
        impl_Case_best_K1 N kx least2 r1.1 (ilt r2.1 0) v162 v172 c3 best2 periods1
      else
        impl_Case_best_K1 N kx least2 r1.1 false v162 v172 c3 best2 periods1
def impl_Case_best_B1 (N : Nat) (kx : Int → Int → Int → ((List Int) × (List Int) × (List Int) × (List Int)) → (List Int) → Option (((List Int) × Int) × Unit)) (kx1 : Int → Int → Int → Int → Int → Int → ((List Int) × (List Int) × (List Int) × (List Int)) → (List Int) → (List Int) → Option (((List Int) × Int) × Unit)) (least1 : Int) (setx : Int) (v161 : Int) (v171 : Int) (v23 : Int) (v24 : Int) (c2 : (List Int) × (List Int) × (List Int) × (List Int)) (best1 : List Int) (periods : List Int) : Option (((List Int) × Int) × Unit) :=
  bif ilt v24 v23 then
    chk (ile 0 v24) <|
    bif ieq (iand .i64 (ishr .i64 setx v24) 1) 1 then
      chk (fitB (periods.length + 1) 8) <|
      kx1 least1 setx v161 v171 v23 (iadd .i64 v24 1) c2 best1 (periods ++ [v24])
    else
      kx1 least1 setx v161 v171 v23 (iadd .i64 v24 1) c2 best1 periods
  else
    impl_Case_best_K2 N kx least1 v161 v171 c2 best1 periods
def impl_Case_best_L1 (N fu_ : Nat) (kx : Int → Int → Int → ((List Int) × (List Int) × (List Int) × (List Int)) → (List Int) → Option (((List Int) × Int) × Unit)) (least1 : Int) (setx : Int) (v161 : Int) (v171 : Int) (v23 : Int) (v24 : Int) (c2 : (List Int) × (List Int) × (List Int) × (List Int)) (best1 : List Int) (periods : List Int) : Option (((List Int) × Int) × Unit) :=
  iterK fu_ (fun kx1 (v_ : (Int × Int × Int × Int × Int × Int × Unit) × (((List Int) × (List Int) × (List Int) × (List Int)) × (List Int) × (List Int) × Unit)) => impl_Case_best_B1 N kx (fun least1 setx v161 v171 v23 v24 c2 best1 periods => kx1 ((least1, setx, v161, v171, v23, v24, ()), (c2, best1, periods, ()))) v_.1.1 v_.1.2.1 v_.1.2.2.1 v_.1.2.2.2.1 v_.1.2.2.2.2.1 v_.1.2.2.2.2.2.1 v_.2.1 v_.2.2.1 v_.2.2.2.1) ((least1, setx, v161, v171, v23, v24, ()), (c2, best1, periods, ()))
theorem impl_Case_best_L1_succ (N fu_ : Nat) (kx : Int → Int → Int → ((List Int) × (List Int) × (List Int) × (List Int)) → (List Int) → Option (((List Int) × Int) × Unit)) (least1 : Int) (setx : Int) (v161 : Int) (v171 : Int) (v23 : Int) (v24 : Int) (c2 : (List Int) × (List Int) × (List Int) × (List Int)) (best1 : List Int) (periods : List Int) : impl_Case_best_L1 N (fu_ + 1) kx least1 setx v161 v171 v23 v24 c2 best1 periods = impl_Case_best_B1 N kx (fun least1 setx v161 v171 v23 v24 c2 best1 periods => impl_Case_best_L1 N fu_ kx least1 setx v161 v171 v23 v24 c2 best1 periods) least1 setx v161 v171 v23 v24 c2 best1 periods := rfl
theorem impl_Case_best_L1_run (N : Nat) (kx : Int → Int → Int → ((List Int) × (List Int) × (List Int) × (List Int)) → (List Int) → Option (((List Int) × Int) × Unit)) (least1 : Nat → Int) (setx : Nat → Int) (v161 : Nat → Int) (v171 : Nat → Int) (v23 : Nat → Int) (v24 : Nat → Int) (c2 : Nat → ((List Int) × (List Int) × (List Int) × (List Int))) (best1 : Nat → (List Int)) (periods : Nat → (List Int)) (n_ : Nat) {res_ : Option (((List Int) × Int) × Unit)} (hstep_ : ∀ j_, j_ < n_ → ∀ kx_, impl_Case_best_B1 N kx kx_ (least1 j_) (setx j_) (v161 j_) (v171 j_) (v23 j_) (v24 j_) (c2 j_) (best1 j_) (periods j_) = kx_ (least1 (j_ + 1)) (setx (j_ + 1)) (v161 (j_ + 1)) (v171 (j_ + 1)) (v23 (j_ + 1)) (v24 (j_ + 1)) (c2 (j_ + 1)) (best1 (j_ + 1)) (periods (j_ + 1))) (hend_ : ∀ kx_, impl_Case_best_B1 N kx kx_ (least1 n_) (setx n_) (v161 n_) (v171 n_) (v23 n_) (v24 n_) (c2 n_) (best1 n_) (periods n_) = res_) (fu_ : Nat) (hm_ : n_ < fu_) : impl_Case_best_L1 N fu_ kx (least1 0) (setx 0) (v161 0) (v171 0) (v23 0) (v24 0) (c2 0) (best1 0) (periods 0) = res_ := by
  exact loop_run (L := fun fu_ (x_ : Int × Int × Int × Int × Int × Int × ((List Int) × (List Int) × (List Int) × (List Int)) × (List Int) × (List Int)) => impl_Case_best_L1 N fu_ kx x_.1 x_.2.1 x_.2.2.1 x_.2.2.2.1 x_.2.2.2.2.1 x_.2.2.2.2.2.1 x_.2.2.2.2.2.2.1 x_.2.2.2.2.2.2.2.1 x_.2.2.2.2.2.2.2.2) (B := fun kx_ x_ => impl_Case_best_B1 N kx (fun least1 setx v161 v171 v23 v24 c2 best1 periods => kx_ (least1, setx, v161, v171, v23, v24, c2, best1, periods)) x_.1 x_.2.1 x_.2.2.1 x_.2.2.2.1 x_.2.2.2.2.1 x_.2.2.2.2.2.1 x_.2.2.2.2.2.2.1 x_.2.2.2.2.2.2.2.1 x_.2.2.2.2.2.2.2.2) (fun _ _ => rfl) (fun j_ => (least1 j_, setx j_, v161 j_, v171 j_, v23 j_, v24 j_, c2 j_, best1 j_, periods j_)) n_ (fun j_ hi_ kx_ => hstep_ j_ hi_ _) (fun kx_ => hend_ _) fu_ hm_
def impl_Case_best_K3 (N : Nat) (least4 : Int) (best4 : List Int) : Option (((List Int) × Int) × Unit) :=
  some ((best4, least4), ())
def impl_Case_best_B2 (N : Nat) (kx : Int → Int → Int → ((List Int) × (List Int) × (List Int) × (List Int)) → (List Int) → Option (((List Int) × Int) × Unit)) (least : Int) (v16 : Int) (v17 : Int) (c1 : (List Int) × (List Int) × (List Int) × (List Int)) (best : List Int) : Option (((List Int) × Int) × Unit) :=
  bif ilt v17 v16 then
    impl_Case_best_L1 N N kx least v17 v16 v17 (len c1.1) 0 c1 best []
  else
    impl_Case_best_K3 N least best
def impl_Case_best_L2 (N fu_ : Nat) (least : Int) (v16 : Int) (v17 : Int) (c1 : (List Int) × (List Int) × (List Int) × (List Int)) (best : List Int) : Option (((List Int) × Int) × Unit) :=
  iterK fu_ (fun kx (v_ : (Int × Int × Int × Unit) × (((List Int) × (List Int) × (List Int) × (List Int)) × (List Int) × Unit)) => impl_Case_best_B2 N (fun least v16 v17 c1 best => kx ((least, v16, v17, ()), (c1, best, ()))) v_.1.1 v_.1.2.1 v_.1.2.2.1 v_.2.1 v_.2.2.1) ((least, v16, v17, ()), (c1, best, ()))
theorem impl_Case_best_L2_succ (N fu_ : Nat) (least : Int) (v16 : Int) (v17 : Int) (c1 : (List Int) × (List Int) × (List Int) × (List Int)) (best : List Int) : impl_Case_best_L2 N (fu_ + 1) least v16 v17 c1 best = impl_Case_best_B2 N (fun least v16 v17 c1 best => impl_Case_best_L2 N fu_ least v16 v17 c1 best) least v16 v17 c1 best := rfl
theorem impl_Case_best_L2_run (N : Nat) (least : Nat → Int) (v16 : Nat → Int) (v17 : Nat → Int) (c1 : Nat → ((List Int) × (List Int) × (List Int) × (List Int))) (best : Nat → (List Int)) (n_ : Nat) {res_ : Option (((List Int) × Int) × Unit)} (hstep_ : ∀ j_, j_ < n_ → ∀ kx_, impl_Case_best_B2 N kx_ (least j_) (v16 j_) (v17 j_) (c1 j_) (best j_) = kx_ (least (j_ + 1)) (v16 (j_ + 1)) (v17 (j_ + 1)) (c1 (j_ + 1)) (best (j_ + 1))) (hend_ : ∀ kx_, impl_Case_best_B2 N kx_ (least n_) (v16 n_) (v17 n_) (c1 n_) (best n_) = res_) (fu_ : Nat) (hm_ : n_ < fu_) : impl_Case_best_L2 N fu_ (least 0) (v16 0) (v17 0) (c1 0) (best 0) = res_ := by
  exact loop_run (L := fun fu_ (x_ : Int × Int × Int × ((List Int) × (List Int) × (List Int) × (List Int)) × (List Int)) => impl_Case_best_L2 N fu_ x_.1 x_.2.1 x_.2.2.1 x_.2.2.2.1 x_.2.2.2.2) (B := fun kx_ x_ => impl_Case_best_B2 N (fun least v16 v17 c1 best => kx_ (least, v16, v17, c1, best)) x_.1 x_.2.1 x_.2.2.1 x_.2.2.2.1 x_.2.2.2.2) (fun _ _ => rfl) (fun j_ => (least j_, v16 j_, v17 j_, c1 j_, best j_)) n_ (fun j_ hi_ kx_ => hstep_ j_ hi_ _) (fun kx_ => hend_ _) fu_ hm_
def impl_Case_best (N : Nat) (c : (List Int) × (List Int) × (List Int) × (List Int)) : Option (((List Int) × Int) × Unit) :=
  chk (ile 0 (len c.1)) <|
  impl_Case_best_L2 N N (-1) (ishl .i64 1 (len c.1)) 0 c []
def impl_StagewisePlan_B1 (N : Nat) (kx : Nat → Int → ((List Int) × (List Int) × (List Int)) → (List (List Int)) → Option (((List (List Int)) × Bool) × Unit)) (needi : Nat) (stage : Int) (c1 : (List Int) × (List Int) × (List Int)) (out : List (List Int)) : Option (((List (List Int)) × Bool) × Unit) :=
  bif ile 0 stage then
    (impl_allWithin N (gd out needi []) 0 20).bind fun r5 =>
    bif !r5.1 then
      some (([], false), ())
    else
      chk (inB stage c1.2.1.length) <|
      chk (inB stage c1.2.2.length) <|
      (impl_evenCase N (gd out needi []) (gd c1.2.1 stage.toNat 0) (gd c1.2.2 stage.toNat 0)).bind fun r6 =>
      (impl_Case_best N r6.1).bind fun r7 =>
      (impl_Case_planFrom N r6.1 r7.1.1).bind fun r8 =>
      chk (inB stage out.length) <|
      chk (inB stage (List.set out stage.toNat r8.1.1).length) <|
      kx stage.toNat (isub .i64 stage 1) c1 (List.set out stage.toNat r8.1.1)
  else
    some ((out, true), ())
def impl_StagewisePlan_L1 (N fu_ : Nat) (needi : Nat) (stage : Int) (c1 : (List Int) × (List Int) × (List Int)) (out : List (List Int)) : Option (((List (List Int)) × Bool) × Unit) :=
  iterK fu_ (fun kx (v_ : (Nat × Int × Unit) × (((List Int) × (List Int) × (List Int)) × (List (List Int)) × Unit)) => impl_StagewisePlan_B1 N (fun needi stage c1 out => kx ((needi, stage, ()), (c1, out, ()))) v_.1.1 v_.1.2.1 v_.2.1 v_.2.2.1) ((needi, stage, ()), (c1, out, ()))
theorem impl_StagewisePlan_L1_succ (N fu_ : Nat) (needi : Nat) (stage : Int) (c1 : (List Int) × (List Int) × (List Int)) (out : List (List Int)) : impl_StagewisePlan_L1 N (fu_ + 1) needi stage c1 out = impl_StagewisePlan_B1 N (fun needi stage c1 out => impl_StagewisePlan_L1 N fu_ needi stage c1 out) needi stage c1 out := rfl
theorem impl_StagewisePlan_L1_run (N : Nat) (needi : Nat → Nat) (stage : Nat → Int) (c1 : Nat → ((List Int) × (List Int) × (List Int))) (out : Nat → (List (List Int))) (n_ : Nat) {res_ : Option (((List (List Int)) × Bool) × Unit)} (hstep_ : ∀ j_, j_ < n_ → ∀ kx_, impl_StagewisePlan_B1 N kx_ (needi j_) (stage j_) (c1 j_) (out j_) = kx_ (needi (j_ + 1)) (stage (j_ + 1)) (c1 (j_ + 1)) (out (j_ + 1))) (hend_ : ∀ kx_, impl_StagewisePlan_B1 N kx_ (needi n_) (stage n_) (c1 n_) (out n_) = res_) (fu_ : Nat) (hm_ : n_ < fu_) : impl_StagewisePlan_L1 N fu_ (needi 0) (stage 0) (c1 0) (out 0) = res_ := by
  exact loop_run (L := fun fu_ (x_ : Nat × Int × ((List Int) × (List Int) × (List Int)) × (List (List Int))) => impl_StagewisePlan_L1 N fu_ x_.1 x_.2.1 x_.2.2.1 x_.2.2.2) (B := fun kx_ x_ => impl_StagewisePlan_B1 N (fun needi stage c1 out => kx_ (needi, stage, c1, out)) x_.1 x_.2.1 x_.2.2.1 x_.2.2.2) (fun _ _ => rfl) (fun j_ => (needi j_, stage j_, c1 j_, out j_)) n_ (fun j_ hi_ kx_ => hstep_ j_ hi_ _) (fun kx_ => hend_ _) fu_ hm_
def impl_StagewisePlan (N : Nat) (c : (List Int) × (List Int) × (List Int)) : Option (((List (List Int)) × Bool) × Unit) :=
  (impl_IsChain N c).bind fun r =>
  bif !r.1 then
    some (([], false), ())
  else
    chk (mkB (len c.2.1) 24) <|
    bif ile 0 (isub .i64 (len (List.replicate (len c.2.1).toNat ([] : List Int))) 1) then
      (impl_allWithin N c.1 0 20).bind fun r1 =>
      bif !r1.1 then
        some (([], false), ())
      else
        chk (inB (isub .i64 (len (List.replicate (len c.2.1).toNat ([] : List Int))) 1) c.2.1.length) <|
        chk (inB (isub .i64 (len (List.replicate (len c.2.1).toNat ([] : List Int))) 1) c.2.2.length) <|
        (impl_evenCase N c.1 (gd c.2.1 (isub .i64 (len (List.replicate (len c.2.1).toNat ([] : List Int))) 1).toNat 0) (gd c.2.2 (isub .i64 (len (List.replicate (len c.2.1).toNat ([] : List Int))) 1).toNat 0)).bind fun r2 =>
        (impl_Case_best N r2.1).bind fun r3 =>
        (impl_Case_planFrom N r2.1 r3.1.1).bind fun r4 =>
        chk (inB (isub .i64 (len (List.replicate (len c.2.1).toNat ([] : List Int))) 1) (List.replicate (len c.2.1).toNat ([] : List Int)).length) <|
        chk (inB (isub .i64 (len (List.replicate (len c.2.1).toNat ([] : List Int))) 1) (List.set (List.replicate (len c.2.1).toNat ([] : List Int)) (isub .i64 (len (List.replicate (len c.2.1).toNat ([] : List Int))) 1).toNat r4.1.1).length) <|
        impl_StagewisePlan_L1 N N (isub .i64 (len (List.replicate (len c.2.1).toNat ([] : List Int))) 1).toNat (isub .i64 (isub .i64 (len (List.replicate (len c.2.1).toNat ([] : List Int))) 1) 1) c (List.set (List.replicate (len c.2.1).toNat ([] : List Int)) (isub .i64 (len (List.replicate (len c.2.1).toNat ([] : List Int))) 1).toNat r4.1.1)
    else
      some ((List.replicate (len c.2.1).toNat ([] : List Int), true), ())
def laws_eqIntSS_K1 (N : Nat) : Option (Bool × Unit) :=
  some (true, ())
def laws_eqIntSS_B1 (N : Nat) (kx : (List (List Int)) → (List (List Int)) → Int → Option (Bool × Unit)) (a1 : List (List Int)) (b1 : List (List Int)) (i : Int) : Option (Bool × Unit) :=
  bif ilt i (len a1) then
    chk (inB i a1.length) <|
    chk (inB i b1.length) <|
    (laws_eqIntS N (gd a1 i.toNat []) (gd b1 i.toNat [])).bind fun r =>
    bif !r.1 then
      some (false, ())
    else
      kx a1 b1 (iadd .i64 i 1)
  else
    laws_eqIntSS_K1 N
def laws_eqIntSS_L1 (N fu_ : Nat) (a1 : List (List Int)) (b1 : List (List Int)) (i : Int) : Option (Bool × Unit) :=
  iterK fu_ (fun kx (v_ : ((List (List Int)) × (List (List Int)) × Int × Unit) × (Unit)) => laws_eqIntSS_B1 N (fun a1 b1 i => kx ((a1, b1, i, ()), ())) v_.1.1 v_.1.2.1 v_.1.2.2.1) ((a1, b1, i, ()), ())
theorem laws_eqIntSS_L1_succ (N fu_ : Nat) (a1 : List (List Int)) (b1 : List (List Int)) (i : Int) : laws_eqIntSS_L1 N (fu_ + 1) a1 b1 i = laws_eqIntSS_B1 N (fun a1 b1 i => laws_eqIntSS_L1 N fu_ a1 b1 i) a1 b1 i := rfl
theorem laws_eqIntSS_L1_run (N : Nat) (a1 : Nat → (List (List Int))) (b1 : Nat → (List (List Int))) (i : Nat → Int) (n_ : Nat) {res_ : Option (Bool × Unit)} (hstep_ : ∀ j_, j_ < n_ → ∀ kx_, laws_eqIntSS_B1 N kx_ (a1 j_) (b1 j_) (i j_) = kx_ (a1 (j_ + 1)) (b1 (j_ + 1)) (i (j_ + 1))) (hend_ : ∀ kx_, laws_eqIntSS_B1 N kx_ (a1 n_) (b1 n_) (i n_) = res_) (fu_ : Nat) (hm_ : n_ < fu_) : laws_eqIntSS_L1 N fu_ (a1 0) (b1 0) (i 0) = res_ := by
  exact loop_run (L := fun fu_ (x_ : (List (List Int)) × (List (List Int)) × Int) => laws_eqIntSS_L1 N fu_ x_.1 x_.2.1 x_.2.2) (B := fun kx_ x_ => laws_eqIntSS_B1 N (fun a1 b1 i => kx_ (a1, b1, i)) x_.1 x_.2.1 x_.2.2) (fun _ _ => rfl) (fun j_ => (a1 j_, b1 j_, i j_)) n_ (fun j_ hi_ kx_ => hstep_ j_ hi_ _) (fun kx_ => hend_ _) fu_ hm_
def laws_eqIntSS (N : Nat) (a : List (List Int)) (b : List (List Int)) : Option (Bool × Unit) :=
  bif ine (len a) (len b) then
    some (false, ())
  else
    laws_eqIntSS_L1 N N a b 0
def laws_markIntS_K1 (N : Nat) (kx3 : Int) (a2 : List Int) : Option (Int × (List Int)) :=
  some (kx3, a2)
def laws_markIntS_B1 (N : Nat) (kx2 : Int → Int → (List Int) → Option (Int × (List Int))) (kx1 : Int) (i : Int) (a1 : List Int) : Option (Int × (List Int)) :=
  bif ilt i (len a1) then
    chk (inB i a1.length) <|
    kx2 (iadd .i64 kx1 1) (iadd .i64 i 1) (List.set a1 i.toNat kx1)
  else
    laws_markIntS_K1 N kx1 a1
def laws_markIntS_L1 (N fu_ : Nat) (kx1 : Int) (i : Int) (a1 : List Int) : Option (Int × (List Int)) :=
  iterK fu_ (fun kx2 (v_ : (Int × Int × Unit) × ((List Int) × Unit)) => laws_markIntS_B1 N (fun kx1 i a1 => kx2 ((kx1, i, ()), (a1, ()))) v_.1.1 v_.1.2.1 v_.2.1) ((kx1, i, ()), (a1, ()))
theorem laws_markIntS_L1_succ (N fu_ : Nat) (kx1 : Int) (i : Int) (a1 : List Int) : laws_markIntS_L1 N (fu_ + 1) kx1 i a1 = laws_markIntS_B1 N (fun kx1 i a1 => laws_markIntS_L1 N fu_ kx1 i a1) kx1 i a1 := rfl
theorem laws_markIntS_L1_run (N : Nat) (kx1 : Nat → Int) (i : Nat → Int) (a1 : Nat → (List Int)) (n_ : Nat) {res_ : Option (Int × (List Int))} (hstep_ : ∀ j_, j_ < n_ → ∀ kx_, laws_markIntS_B1 N kx_ (kx1 j_) (i j_) (a1 j_) = kx_ (kx1 (j_ + 1)) (i (j_ + 1)) (a1 (j_ + 1))) (hend_ : ∀ kx_, laws_markIntS_B1 N kx_ (kx1 n_) (i n_) (a1 n_) = res_) (fu_ : Nat) (hm_ : n_ < fu_) : laws_markIntS_L1 N fu_ (kx1 0) (i 0) (a1 0) = res_ := by
  exact loop_run (L := fun fu_ (x_ : Int × Int × (List Int)) => laws_markIntS_L1 N fu_ x_.1 x_.2.1 x_.2.2) (B := fun kx_ x_ => laws_markIntS_B1 N (fun kx1 i a1 => kx_ (kx1, i, a1)) x_.1 x_.2.1 x_.2.2) (fun _ _ => rfl) (fun j_ => (kx1 j_, i j_, a1 j_)) n_ (fun j_ hi_ kx_ => hstep_ j_ hi_ _) (fun kx_ => hend_ _) fu_ hm_
def laws_markIntS (N : Nat) (a : List Int) (kx : Int) : Option (Int × (List Int)) :=
  laws_markIntS_L1 N N kx 0 a
def laws_markChain (N : Nat) (a : (List Int) × (List Int) × (List Int)) (kx : Int) : Option (Int × ((List Int) × (List Int) × (List Int))) :=
  (laws_markIntS N a.1 kx).bind fun r =>
  (laws_markIntS N a.2.1 r.1).bind fun r1 =>
  (laws_markIntS N a.2.2 r1.1).bind fun r2 =>
  some (r2.1, (r.2, (r1.2, r2.2)))
def laws_markIntSS_K1 (N : Nat) (kx3 : Int) (a2 : List (List Int)) : Option (Int × (List (List Int))) :=
  some (kx3, a2)
def laws_markIntSS_B1 (N : Nat) (kx2 : Int → Int → (List (List Int)) → Option (Int × (List (List Int)))) (kx1 : Int) (i : Int) (a1 : List (List Int)) : Option (Int × (List (List Int))) :=
  bif ilt i (len a1) then
    chk (inB i a1.length) <|
    (laws_markIntS N (gd a1 i.toNat []) kx1).bind fun r =>
    kx2 r.1 (iadd .i64 i 1) (List.set a1 i.toNat r.2)
  else
    laws_markIntSS_K1 N kx1 a1
def laws_markIntSS_L1 (N fu_ : Nat) (kx1 : Int) (i : Int) (a1 : List (List Int)) : Option (Int × (List (List Int))) :=
  iterK fu_ (fun kx2 (v_ : (Int × Int × Unit) × ((List (List Int)) × Unit)) => laws_markIntSS_B1 N (fun kx1 i a1 => kx2 ((kx1, i, ()), (a1, ()))) v_.1.1 v_.1.2.1 v_.2.1) ((kx1, i, ()), (a1, ()))
theorem laws_markIntSS_L1_succ (N fu_ : Nat) (kx1 : Int) (i : Int) (a1 : List (List Int)) : laws_markIntSS_L1 N (fu_ + 1) kx1 i a1 = laws_markIntSS_B1 N (fun kx1 i a1 => laws_markIntSS_L1 N fu_ kx1 i a1) kx1 i a1 := rfl
theorem laws_markIntSS_L1_run (N : Nat) (kx1 : Nat → Int) (i : Nat → Int) (a1 : Nat → (List (List Int))) (n_ : Nat) {res_ : Option (Int × (List (List Int)))} (hstep_ : ∀ j_, j_ < n_ → ∀ kx_, laws_markIntSS_B1 N kx_ (kx1 j_) (i j_) (a1 j_) = kx_ (kx1 (j_ + 1)) (i (j_ + 1)) (a1 (j_ + 1))) (hend_ : ∀ kx_, laws_markIntSS_B1 N kx_ (kx1 n_) (i n_) (a1 n_) = res_) (fu_ : Nat) (hm_ : n_ < fu_) : laws_markIntSS_L1 N fu_ (kx1 0) (i 0) (a1 0) = res_ := by
  exact loop_run (L := fun fu_ (x_ : Int × Int × (List (List Int))) => laws_markIntSS_L1 N fu_ x_.1 x_.2.1 x_.2.2) (B := fun kx_ x_ => laws_markIntSS_B1 N (fun kx1 i a1 => kx_ (kx1, i, a1)) x_.1 x_.2.1 x_.2.2) (fun _ _ => rfl) (fun j_ => (kx1 j_, i j_, a1 j_)) n_ (fun j_ hi_ kx_ => hstep_ j_ hi_ _) (fun kx_ => hend_ _) fu_ hm_
def laws_markIntSS (N : Nat) (a : List (List Int)) (kx : Int) : Option (Int × (List (List Int))) :=
  laws_markIntSS_L1 N N kx 0 a
def laws_heldIntS_K1 (N : Nat) (kx3 : Int) : Option (Int × Unit) :=
  some (kx3, ())
def laws_heldIntS_B1 (N : Nat) (kx2 : (List Int) → Int → Int → Option (Int × Unit)) (a1 : List Int) (kx1 : Int) (i : Int) : Option (Int × Unit) :=
  bif ilt i (len a1) then
    chk (inB i a1.length) <|
    bif ine (gd a1 i.toNat 0) kx1 then
      some ((-1), ())
    else
      kx2 a1 (iadd .i64 kx1 1) (iadd .i64 i 1)
  else
    laws_heldIntS_K1 N kx1
def laws_heldIntS_L1 (N fu_ : Nat) (a1 : List Int) (kx1 : Int) (i : Int) : Option (Int × Unit) :=
  iterK fu_ (fun kx2 (v_ : ((List Int) × Int × Int × Unit) × (Unit)) => laws_heldIntS_B1 N (fun a1 kx1 i => kx2 ((a1, kx1, i, ()), ())) v_.1.1 v_.1.2.1 v_.1.2.2.1) ((a1, kx1, i, ()), ())
theorem laws_heldIntS_L1_succ (N fu_ : Nat) (a1 : List Int) (kx1 : Int) (i : Int) : laws_heldIntS_L1 N (fu_ + 1) a1 kx1 i = laws_heldIntS_B1 N (fun a1 kx1 i => laws_heldIntS_L1 N fu_ a1 kx1 i) a1 kx1 i := rfl
theorem laws_heldIntS_L1_run (N : Nat) (a1 : Nat → (List Int)) (kx1 : Nat → Int) (i : Nat → Int) (n_ : Nat) {res_ : Option (Int × Unit)} (hstep_ : ∀ j_, j_ < n_ → ∀ kx_, laws_heldIntS_B1 N kx_ (a1 j_) (kx1 j_) (i j_) = kx_ (a1 (j_ + 1)) (kx1 (j_ + 1)) (i (j_ + 1))) (hend_ : ∀ kx_, laws_heldIntS_B1 N kx_ (a1 n_) (kx1 n_) (i n_) = res_) (fu_ : Nat) (hm_ : n_ < fu_) : laws_heldIntS_L1 N fu_ (a1 0) (kx1 0) (i 0) = res_ := by
  exact loop_run (L := fun fu_ (x_ : (List Int) × Int × Int) => laws_heldIntS_L1 N fu_ x_.1 x_.2.1 x_.2.2) (B := fun kx_ x_ => laws_heldIntS_B1 N (fun a1 kx1 i => kx_ (a1, kx1, i)) x_.1 x_.2.1 x_.2.2) (fun _ _ => rfl) (fun j_ => (a1 j_, kx1 j_, i j_)) n_ (fun j_ hi_ kx_ => hstep_ j_ hi_ _) (fun kx_ => hend_ _) fu_ hm_
def laws_heldIntS (N : Nat) (a : List Int) (kx : Int) : Option (Int × Unit) :=
  laws_heldIntS_L1 N N a kx 0
def laws_heldIntSS_K1 (N : Nat) (kx3 : Int) : Option (Int × Unit) :=
  some (kx3, ())
def laws_heldIntSS_B1 (N : Nat) (kx2 : (List (List Int)) → Int → Int → Option (Int × Unit)) (a1 : List (List Int)) (kx1 : Int) (i : Int) : Option (Int × Unit) :=
  bif ilt i (len a1) then
    chk (inB i a1.length) <|
    (laws_heldIntS N (gd a1 i.toNat []) kx1).bind fun r =>
    bif ilt r.1 0 then
      some ((-1), ())
    else
      kx2 a1 r.1 (iadd .i64 i 1)
  else
    laws_heldIntSS_K1 N kx1
def laws_heldIntSS_L1 (N fu_ : Nat) (a1 : List (List Int)) (kx1 : Int) (i : Int) : Option (Int × Unit) :=
  iterK fu_ (fun kx2 (v_ : ((List (List Int)) × Int × Int × Unit) × (Unit)) => laws_heldIntSS_B1 N (fun a1 kx1 i => kx2 ((a1, kx1, i, ()), ())) v_.1.1 v_.1.2.1 v_.1.2.2.1) ((a1, kx1, i, ()), ())
theorem laws_heldIntSS_L1_succ (N fu_ : Nat) (a1 : List (List Int)) (kx1 : Int) (i : Int) : laws_heldIntSS_L1 N (fu_ + 1) a1 kx1 i = laws_heldIntSS_B1 N (fun a1 kx1 i => laws_heldIntSS_L1 N fu_ a1 kx1 i) a1 kx1 i := rfl
theorem laws_heldIntSS_L1_run (N : Nat) (a1 : Nat → (List (List Int))) (kx1 : Nat → Int) (i : Nat → Int) (n_ : Nat) {res_ : Option (Int × Unit)} (hstep_ : ∀ j_, j_ < n_ → ∀ kx_, laws_heldIntSS_B1 N kx_ (a1 j_) (kx1 j_) (i j_) = kx_ (a1 (j_ + 1)) (kx1 (j_ + 1)) (i (j_ + 1))) (hend_ : ∀ kx_, laws_heldIntSS_B1 N kx_ (a1 n_) (kx1 n_) (i n_) = res_) (fu_ : Nat) (hm_ : n_ < fu_) : laws_heldIntSS_L1 N fu_ (a1 0) (kx1 0) (i 0) = res_ := by
  exact loop_run (L := fun fu_ (x_ : (List (List Int)) × Int × Int) => laws_heldIntSS_L1 N fu_ x_.1 x_.2.1 x_.2.2) (B := fun kx_ x_ => laws_heldIntSS_B1 N (fun a1 kx1 i => kx_ (a1, kx1, i)) x_.1 x_.2.1 x_.2.2) (fun _ _ => rfl) (fun j_ => (a1 j_, kx1 j_, i j_)) n_ (fun j_ hi_ kx_ => hstep_ j_ hi_ _) (fun kx_ => hend_ _) fu_ hm_
def laws_heldIntSS (N : Nat) (a : List (List Int)) (kx : Int) : Option (Int × Unit) :=
  laws_heldIntSS_L1 N N a kx 0
def laws_FnExactStagewisePlan (N : Nat) (aC : (List Int) × (List Int) × (List Int)) : Option (Bool × Unit) :=
  (laws_szChain N aC 1048576).bind fun r =>
  bif ilt r.1 0 then
    some (true, ())
  else
    (laws_toChain N aC).bind fun r1 =>
    (spec_StagewisePlan N r1.1).bind fun r2 =>
    (laws_toChain N aC).bind fun r3 =>
    (impl_StagewisePlan N r3.1).bind fun r4 =>
    (laws_eqIntSS N r4.1.1 r2.1.1).bind fun r5 =>
    bif !r5.1 then
      some (false, ())
    else
      bif !(Go.Rx.beq r4.1.2 r2.1.2) then
        some (false, ())
      else
        (laws_toChain N aC).bind fun r6 =>
        (laws_eqChain N r3.1 r6.1).bind fun r7 =>
        bif !r7.1 then
          some (false, ())
        else
          (laws_markChain N r3.1 1).bind fun r8 =>
          bif ilt r8.1 0 then
            some (false, ())
          else
            (laws_eqIntSS N r4.1.1 r2.1.1).bind fun r9 =>
            bif !r9.1 then
              some (false, ())
            else
              bif !(Go.Rx.beq r4.1.2 r2.1.2) then
                some (false, ())
              else
                (laws_markIntSS N r4.1.1 1).bind fun r10 =>
                (laws_heldIntSS N r10.2 1).bind fun r11 =>
                bif ilt r11.1 0 then
                  some (false, ())
                else
                  bif ine r11.1 r10.1 then
                    some (false, ())
                  else
                    (laws_toChain N aC).bind fun r12 =>
                    (impl_StagewisePlan N r12.1).bind fun r13 =>
                    (laws_eqIntSS N r13.1.1 r2.1.1).bind fun r14 =>
                    bif !r14.1 then
                      some (false, ())
                    else
                      bif !(Go.Rx.beq r13.1.2 r2.1.2) then
                        some (false, ())
                      else
                        (laws_heldIntSS N r10.2 1).bind fun r15 =>
                        bif ilt r15.1 0 then
                          some (false, ())
                        else
                          bif ine r15.1 r10.1 then
                            some (false, ())
                          else
                            some (true, ())
end Px
end Go.Rx
