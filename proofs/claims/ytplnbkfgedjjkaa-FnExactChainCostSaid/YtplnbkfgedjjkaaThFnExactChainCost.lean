/- This text proves, of the plain functions behind FnExactChainCost, that the law answers true; no condition beyond the ranges that its arguments have. -/
import Derived.Test.YtplnbkfgedjjkaaPxFnExactChainCost
set_option linter.unusedVariables false
set_option linter.unusedSimpArgs false
namespace Go.Rx
theorem wrap_in {n : Int} (h1 : -9223372036854775808 ≤ n) (h2 : n < 9223372036854775808) : IntKind.i64.wrap n = n := by
  simp [IntKind.wrap, IntKind.bits, IntKind.signed]
  omega
theorem iadd_in {a b : Int} (h1 : -9223372036854775808 ≤ a + b) (h2 : a + b < 9223372036854775808) : iadd .i64 a b = a + b := wrap_in h1 h2
theorem isub_in {a b : Int} (h1 : -9223372036854775808 ≤ a - b) (h2 : a - b < 9223372036854775808) : isub .i64 a b = a - b := wrap_in h1 h2
theorem imul_in {a b : Int} (h1 : -9223372036854775808 ≤ a * b) (h2 : a * b < 9223372036854775808) : imul .i64 a b = a * b := wrap_in h1 h2
theorem iadd_nat {i : Nat} (h : i < 4611686018427387904) : iadd .i64 (i : Int) 1 = ((i + 1 : Nat) : Int) := by rw [iadd_in (by omega) (by omega)]; omega
@[simp] theorem ilt_eq (a b : Int) : ilt a b = decide (a < b) := rfl
@[simp] theorem ile_eq (a b : Int) : ile a b = decide (a ≤ b) := rfl
@[simp] theorem ieq_eq (a b : Int) : ieq a b = decide (a = b) := rfl
@[simp] theorem ine_eq (a b : Int) : ine a b = !decide (a = b) := rfl
@[simp] theorem len_eq {α : Type} (xs : List α) : len xs = (xs.length : Int) := rfl
@[simp] theorem beq_eq (a b : Bool) : Go.Rx.beq a b = (a == b) := rfl
theorem inB_nat (i n : Nat) : inB (i : Int) n = decide (i < n) := by simp [inB]
theorem inB_true {i n : Nat} (h : i < n) : inB (i : Int) n = true := by simp [inB_nat, h]
theorem fitB_in {n b : Nat} (h : n < 4194304) (hb : b ≤ 1024) : fitB n b = true := by
  have : n * b ≤ 4194304 * 1024 := Nat.mul_le_mul (by omega) hb
  simp only [fitB, Bool.and_eq_true, decide_eq_true_eq]; omega
theorem mkB_in {n b : Nat} (h : n < 4194304) (hb : b ≤ 1024) : mkB (n : Int) b = true := by
  have : n * b ≤ 4194304 * 1024 := Nat.mul_le_mul (by omega) hb
  simp only [mkB, Bool.and_eq_true, decide_eq_true_eq, Int.toNat_natCast]; omega
@[simp] theorem chk_true' {α : Type} (x : Option α) : chk true x = x := rfl
@[simp] theorem chk_false {α : Type} (x : Option α) : chk false x = none := rfl
theorem all_cases {α : Type} (p : α → Bool) (d : α) : ∀ (xs : List α), (xs.all p = true ∧ ∀ i, i < xs.length → p (gd xs i d) = true) ∨ (xs.all p = false ∧ ∃ j, j < xs.length ∧ (∀ i, i < j → p (gd xs i d) = true) ∧ p (gd xs j d) = false)
  | [] => .inl ⟨rfl, fun i h => by simp at h⟩
  | a :: xs => by
    cases ha : p a with
    | false => exact .inr ⟨by simp [ha], 0, by simp, fun i h => by omega, by simpa [gd] using ha⟩
    | true =>
      rcases all_cases p d xs with ⟨h, hall⟩ | ⟨h, j, hj, hb, hat⟩
      · refine .inl ⟨by simp [ha] at h ⊢; exact h, fun i hi => ?_⟩
        cases i with
        | zero => simpa [gd] using ha
        | succ i => simpa [gd] using hall i (by simpa using hi)
      · refine .inr ⟨by rw [List.all_cons, ha, h]; rfl, j + 1, by simpa using hj, fun i hi => ?_, by simpa [gd] using hat⟩
        cases i with
        | zero => simpa [gd] using ha
        | succ i => simpa [gd] using hb i (by omega)
theorem first_cases (p : Nat → Bool) : ∀ (n : Nat), (∀ i, i < n → p i = true) ∨ (∃ j, j < n ∧ (∀ i, i < j → p i = true) ∧ p j = false)
  | 0 => .inl fun i h => by omega
  | n + 1 => by
    rcases first_cases p n with h | ⟨j, hj, hb, hat⟩
    · cases hn : p n with
      | true => exact .inl fun i hi => by by_cases e : i = n; exact e ▸ hn; exact h i (by omega)
      | false => exact .inr ⟨n, by omega, h, hn⟩
    · exact .inr ⟨j, by omega, hb, hat⟩
theorem take_succ {α : Type} (xs : List α) (i : Nat) (d : α) (h : i < xs.length) : xs.take (i + 1) = xs.take i ++ [gd xs i d] := by
  rw [List.take_succ_eq_append_getElem h]; simp [gd, List.getD_eq_getElem?_getD, h]
theorem mem_getD {α : Type} {xs : List α} {i : Nat} (d : α) (h : i < xs.length) : gd xs i d ∈ xs := by
  rw [gd, List.getD_eq_getElem?_getD, List.getElem?_eq_getElem h]; simp
def inRg (lo hi x : Int) : Bool := decide (lo ≤ x) && decide (x ≤ hi)
def bd (b : Int) (xs : List Int) : Prop := ∀ i, i < xs.length → 0 ≤ gd xs i 0 ∧ gd xs i 0 ≤ b
theorem all_gd {α : Type} {p : α → Bool} {xs : List α} (d : α) (h : xs.all p = true) : ∀ i, i < xs.length → p (gd xs i d) = true := fun _ hi => List.all_eq_true.1 h _ (mem_getD d hi)
theorem bd_of {b : Int} {xs : List Int} (h : xs.all (inRg 0 b) = true) : bd b xs := fun i hi => by
  have := all_gd 0 h i hi
  simpa [inRg] using this
theorem bd_iff {b : Int} {xs : List Int} : xs.all (inRg 0 b) = true ↔ bd b xs := by
  refine ⟨bd_of, fun h => ?_⟩
  rcases all_cases (inRg 0 b) 0 xs with ⟨h1, _⟩ | ⟨_, j, hj, _, hat⟩
  · exact h1
  · have := h j hj
    simp [inRg, this] at hat
def psum (xs : List Int) (i : Nat) : Int := (xs.take i).sum
theorem psum_zero (xs : List Int) : psum xs 0 = 0 := by simp [psum]
theorem psum_succ {xs : List Int} {i : Nat} (h : i < xs.length) : psum xs (i + 1) = psum xs i + gd xs i 0 := by
  unfold psum; rw [take_succ xs i 0 h]; simp
theorem psum_bd {b : Int} {xs : List Int} (h : bd b xs) : ∀ i, i ≤ xs.length → 0 ≤ psum xs i ∧ psum xs i ≤ b * i
  | 0, _ => by simp [psum_zero]
  | i + 1, hi => by
    have h1 := psum_bd h i (by omega)
    have h2 := h i (by omega)
    rw [psum_succ (by omega)]
    have : b * ((i + 1 : Nat) : Int) = b * i + b := by rw [Int.natCast_add, Int.mul_add]; simp
    omega
theorem bif_not {α : Type} (a : Bool) (x y : α) : (bif !a then x else y) = bif a then y else x := by cases a <;> rfl
def RngI (xs : List Int) : Prop := xs.length ≤ maxLen ∧ ∀ i, i < xs.length → (Lit.int .i64 (xs.getD i 0)).wf = true
def RngZ (x : Int) : Prop := (Lit.int .i64 x).wf = true
theorem RngZ.bd {x : Int} (h : RngZ x) : -9223372036854775808 ≤ x ∧ x ≤ 9223372036854775807 := by
  simpa [RngZ, Lit.wf, IntKind.min, IntKind.max, IntKind.signed, IntKind.bits] using h
theorem RngI.bd {xs : List Int} (h : RngI xs) : ∀ i, i < xs.length → -9223372036854775808 ≤ gd xs i 0 ∧ gd xs i 0 ≤ 9223372036854775807 := fun i hi => RngZ.bd (h.2 i hi)
def RngII (xs : List (List Int)) : Prop := xs.length ≤ maxLen ∧ ∀ i, i < xs.length → RngI (xs.getD i [])
end Go.Rx
namespace Go.Rx.Px
abbrev Cs := List Int × List Int × List Int × List Int
theorem impl_within_eq (N : Nat) (x lo hi : Int) : impl_within N x lo hi = some (inRg lo hi x, ()) := by
  simp only [impl_within, ile_eq, inRg]; by_cases h : lo ≤ x <;> simp [h]
theorem spec_l1In_eq (N : Nat) (x lo hi : Int) : spec_l1In N x lo hi = some (inRg lo hi x, ()) := by
  simp only [spec_l1In, ile_eq, inRg]; by_cases h : lo ≤ x <;> simp [h]
theorem impl_allWithin_eq {N : Nat} {xs : List Int} {lo hi : Int} (hl : xs.length < 4194304) (hN : 4194304 ≤ N) : impl_allWithin N xs lo hi = some (xs.all (inRg lo hi), ()) := by
  unfold impl_allWithin
  rcases all_cases (inRg lo hi) 0 xs with ⟨h, hall⟩ | ⟨h, j, hj, hbef, hat⟩
  · refine impl_allWithin_L1_run N (fun _ => lo) (fun _ => hi) (fun _ => xs) (fun _ => xs.length) (fun i => i) xs.length (fun i hi kx => ?_) (fun kx => ?_) N (by omega)
    · simp [impl_allWithin_B1, hi, inB_true hi, impl_within_eq, hall i hi, iadd_nat (show i < 4611686018427387904 by omega)]
    · simp [impl_allWithin_B1, impl_allWithin_K1, h]
  · refine impl_allWithin_L1_run N (fun _ => lo) (fun _ => hi) (fun _ => xs) (fun _ => xs.length) (fun i => i) j (fun i hi kx => ?_) (fun kx => ?_) N (by omega)
    · simp [impl_allWithin_B1, show i < xs.length by omega, inB_true (show i < xs.length by omega), impl_within_eq, hbef i hi, iadd_nat (show i < 4611686018427387904 by omega)]
    · simp [impl_allWithin_B1, hj, inB_true hj, impl_within_eq, hat, h]
theorem spec_l2Row_eq {N : Nat} {xs : List Int} {n hi : Int} (hl : xs.length < 4194304) (hN : 4194304 ≤ N) : spec_l2Row N xs n hi = some (xs.all (inRg 0 hi) && decide ((xs.length : Int) = n), ()) := by
  unfold spec_l2Row
  rcases all_cases (inRg 0 hi) 0 xs with ⟨h, hall⟩ | ⟨h, j, hj, hbef, hat⟩
  · refine spec_l2Row_L1_run N (fun _ => xs) (fun _ => n) (fun _ => hi) (fun i => i) xs.length (fun i hi kx => ?_) (fun kx => ?_) N (by omega)
    · simp [spec_l2Row_B1, hi, inB_true hi, spec_l1In_eq, hall i hi, iadd_nat (show i < 4611686018427387904 by omega)]
    · simp [spec_l2Row_B1, spec_l2Row_K1, h]
  · refine spec_l2Row_L1_run N (fun _ => xs) (fun _ => n) (fun _ => hi) (fun i => i) j (fun i hi kx => ?_) (fun kx => ?_) N (by omega)
    · simp [spec_l2Row_B1, show i < xs.length by omega, inB_true (show i < xs.length by omega), spec_l1In_eq, hbef i hi, iadd_nat (show i < 4611686018427387904 by omega)]
    · simp [spec_l2Row_B1, hj, inB_true hj, spec_l1In_eq, hat, h]
structure CaseP (c : Cs) : Prop where
  n : c.1.length ≤ 8
  l1 : c.2.1.length = c.1.length
  l2 : c.2.2.1.length = c.1.length
  l3 : c.2.2.2.length = c.1.length
  b0 : bd 20 c.1
  b1 : bd 99 c.2.1
  b2 : bd 9 c.2.2.1
  b3 : bd 9 c.2.2.2
def stockAt (plan need : List Int) (t : Nat) : Int := psum plan t - psum need t
theorem laws_toIntS_eq {N : Nat} {a : List Int} (hl : a.length < 4194304) (hN : 4194304 ≤ N) : laws_toIntS N a = some (a, ()) := by
  simp only [laws_toIntS, len_eq, chk_of (mkB_in hl (show 8 ≤ 1024 by omega)), Int.toNat_natCast]
  refine laws_toIntS_L1_run N (fun _ => a) (fun i => i) (fun i => a.take i ++ List.replicate (a.length - i) 0) a.length (fun i hi kx => ?_) (fun kx => ?_) N (by omega)
  · simp only [laws_toIntS_B1, ilt_eq, len_eq, Int.ofNat_lt, hi, decide_true, cond_true, inB_true hi, chk_true', Int.toNat_natCast, iadd_nat (show i < 4611686018427387904 by omega)]
    rw [chk_of (inB_true (by simp; omega))]
    congr 1
    rw [take_succ a i 0 hi, List.set_append, if_neg (by simp; omega), List.append_assoc]
    congr 1
    rw [show a.length - i = (a.length - (i + 1)) + 1 by omega, List.replicate_succ]
    simp [Nat.min_eq_left (Nat.le_of_lt hi)]
  · simp [laws_toIntS_B1, laws_toIntS_K1]
theorem laws_eqIntS_eq {N : Nat} {a b : List Int} (hl : a.length < 4194304) (hN : 4194304 ≤ N) : laws_eqIntS N a b = some (decide (a = b), ()) := by
  by_cases hn : a.length = b.length
  · simp only [laws_eqIntS, ine_eq, len_eq, hn, decide_true, bif_not, cond_true]
    rcases first_cases (fun i => decide (gd a i 0 = gd b i 0)) a.length with h | ⟨j, hj, hb, hat⟩
    · have he : a = b := by
        refine List.ext_getElem hn fun i h1 h2 => ?_
        have := h i h1
        simpa [gd, h1, h2] using this
      refine laws_eqIntS_L1_run N (fun _ => a) (fun _ => b) (fun i => i) a.length (fun i hi kx => ?_) (fun kx => ?_) N (by omega)
      · have h3 : gd a i 0 = gd b i 0 := by simpa using h i hi
        simp [laws_eqIntS_B1, hi, inB_true hi, inB_true (show i < b.length by omega), h3, iadd_nat (show i < 4611686018427387904 by omega)]
      · simp [laws_eqIntS_B1, laws_eqIntS_K1, he]
    · have hat' : gd a j 0 ≠ gd b j 0 := by simpa using hat
      have he : a ≠ b := fun e => hat' (by rw [e])
      refine laws_eqIntS_L1_run N (fun _ => a) (fun _ => b) (fun i => i) j (fun i hi kx => ?_) (fun kx => ?_) N (by omega)
      · have h3 : gd a i 0 = gd b i 0 := by simpa using hb i hi
        simp [laws_eqIntS_B1, show i < a.length by omega, inB_true (show i < a.length by omega), inB_true (show i < b.length by omega), h3, iadd_nat (show i < 4611686018427387904 by omega)]
      · simp [laws_eqIntS_B1, hj, inB_true hj, inB_true (show j < b.length by omega), hat', he]
  · have he : a ≠ b := fun e => hn (by rw [e])
    have : decide ((a.length : Int) = b.length) = false := by simp; omega
    simp [laws_eqIntS, this, he]
theorem laws_szIntS_eq (N : Nat) {a : List Int} {left : Int} (h : a.length ≤ maxLen) (h1 : 0 ≤ left) (h2 : left ≤ 1048576) : ∃ r, laws_szIntS N a left = some (r, ()) ∧ (r < 0 ∨ 0 ≤ r ∧ r ≤ left ∧ (a.length : Int) ≤ left) := by
  unfold maxLen at h
  simp only [laws_szIntS, len_eq, ilt_eq, isub_in (show -9223372036854775808 ≤ left - a.length by omega) (by omega)]
  by_cases h3 : left - a.length < 0
  · exact ⟨-1, by simp [h3], .inl (by omega)⟩
  · exact ⟨left - a.length, by simp [h3], .inr (by omega)⟩
end Go.Rx.Px
namespace Go.Rx
def rsum (f : Nat → Int) : Nat → Int
  | 0 => 0
  | n + 1 => rsum f n + f n
theorem rsum_bd {f : Nat → Int} {lo hi : Int} : ∀ {n : Nat}, (∀ i, i < n → lo ≤ f i ∧ f i ≤ hi) → lo * n ≤ rsum f n ∧ rsum f n ≤ hi * n
  | 0, _ => by simp [rsum]
  | n + 1, h => by
    have h1 := rsum_bd (n := n) (fun i hi => h i (by omega))
    have h2 := h n (by omega)
    have e : ∀ x : Int, x * ((n + 1 : Nat) : Int) = x * n + x := fun x => by rw [Int.natCast_add, Int.mul_add]; simp
    simp only [rsum, e]; omega
theorem mul_bd {a b A B : Int} (ha : 0 ≤ a ∧ a ≤ A) (hb : -B ≤ b ∧ b ≤ B) : -(A * B) ≤ a * b ∧ a * b ≤ A * B := by
  have hB : 0 ≤ B := by omega
  have h1 : a * b ≤ a * B := Int.mul_le_mul_of_nonneg_left hb.2 ha.1
  have h2 : a * (-B) ≤ a * b := Int.mul_le_mul_of_nonneg_left hb.1 ha.1
  have h3 : a * B ≤ A * B := Int.mul_le_mul_of_nonneg_right ha.2 hB
  rw [Int.mul_neg] at h2
  omega
theorem gd_map_range {α : Type} (f : Nat → α) (d : α) {n i : Nat} (h : i < n) : gd ((List.range n).map f) i d = f i := by
  simp [gd, List.getD_eq_getElem?_getD, h]
theorem map_range_succ {α : Type} (f : Nat → α) (n : Nat) : (List.range (n + 1)).map f = (List.range n).map f ++ [f n] := by simp [List.range_succ]
theorem rangeB {p : Nat → Bool} {n : Nat} : (List.range n).all p = true ↔ ∀ i, i < n → p i = true := by simp
end Go.Rx
namespace Go.Rx.Px
def ifpos (p s : Int) : Int := if 0 < p then s else 0
structure PlanP (c : Cs) (plan : List Int) : Prop where
  cs : CaseP c
  n : plan.length = c.1.length
  b : bd 160 plan
theorem PlanP.b200 {c : Cs} {plan : List Int} (h : PlanP c plan) : bd 200 plan := fun i hi => by have := h.b i hi; omega
theorem PlanP.st {c : Cs} {plan : List Int} (h : PlanP c plan) {t : Nat} (ht : t ≤ plan.length) : -1600 ≤ stockAt plan c.1 t ∧ stockAt plan c.1 t ≤ 1600 := by
  have h1 := psum_bd h.b200 t ht
  have h2 := psum_bd h.cs.b0 t (by have := h.n; omega)
  have h3 := h.cs.n
  have h4 := h.n
  simp only [stockAt]; omega
def stocksL (plan need : List Int) (n : Nat) : List Int := (List.range n).map fun i => stockAt plan need (i + 1)
theorem stocksL_len (plan need : List Int) (n : Nat) : (stocksL plan need n).length = n := by simp [stocksL]
theorem stocksL_gd (plan need : List Int) {n i : Nat} (h : i < n) : gd (stocksL plan need n) i 0 = stockAt plan need (i + 1) := gd_map_range _ _ h
theorem stocksL_succ (plan need : List Int) (n : Nat) : stocksL plan need (n + 1) = stocksL plan need n ++ [stockAt plan need (n + 1)] := map_range_succ _ _
theorem stockAt_zero (plan need : List Int) : stockAt plan need 0 = 0 := by simp [stockAt, psum_zero]
theorem stockAt_succ {plan need : List Int} {i : Nat} (h : i < plan.length) (h2 : i < need.length) : stockAt plan need (i + 1) = stockAt plan need i + (gd plan i 0 - gd need i 0) := by
  simp only [stockAt, psum_succ h, psum_succ h2]; omega
theorem len_dec (a b : List Int) : decide ((a.length : Int) = b.length) = decide (a.length = b.length) := by rw [decide_eq_decide]; omega
end Go.Rx.Px
namespace Go.Rx
abbrev Ch := List Int × List Int × List Int
def RngCh (c : Ch) : Prop := RngI c.1 ∧ RngI c.2.1 ∧ RngI c.2.2
def upB (xs : List Int) : Bool := (List.range (xs.length - 1)).all fun i => decide (gd xs i 0 ≤ gd xs (i + 1) 0)
theorem upB_iff {xs : List Int} : upB xs = true ↔ ∀ i, i + 1 < xs.length → gd xs i 0 ≤ gd xs (i + 1) 0 := by
  simp only [upB, rangeB, decide_eq_true_eq]
  exact ⟨fun h i hi => h i (by omega), fun h i hi => h i (by omega)⟩
theorem up_left (xs : List Int) : (upB xs = true ∧ ∀ i, i + 1 < xs.length → gd xs i 0 ≤ gd xs (i + 1) 0) ∨ (upB xs = false ∧ ∃ j, j + 1 < xs.length ∧ (∀ i, i < j → gd xs i 0 ≤ gd xs (i + 1) 0) ∧ gd xs (j + 1) 0 < gd xs j 0) := by
  rcases first_cases (fun i => decide (gd xs i 0 ≤ gd xs (i + 1) 0)) (xs.length - 1) with h | ⟨j, hj, hb, hat⟩
  · exact .inl ⟨rangeB.2 h, fun i hi => by simpa using h i (by omega)⟩
  · have hat' : gd xs (j + 1) 0 < gd xs j 0 := Int.not_le.1 (by simpa using hat)
    refine .inr ⟨?_, j, by omega, fun i hi => by simpa using hb i hi, hat'⟩
    cases hl : upB xs with
    | false => rfl
    | true => exact absurd (upB_iff.1 hl j (by omega)) (by omega)
theorem up_right (xs : List Int) : (upB xs = true ∧ ∀ i, i + 1 < xs.length → gd xs i 0 ≤ gd xs (i + 1) 0) ∨ (upB xs = false ∧ ∃ j, j + 1 < xs.length ∧ (∀ i, i < j → gd xs (xs.length - 2 - i) 0 ≤ gd xs (xs.length - 1 - i) 0) ∧ gd xs (xs.length - 1 - j) 0 < gd xs (xs.length - 2 - j) 0) := by
  rcases first_cases (fun i => decide (gd xs (xs.length - 2 - i) 0 ≤ gd xs (xs.length - 1 - i) 0)) (xs.length - 1) with h | ⟨j, hj, hb, hat⟩
  · have h' : ∀ i, i + 1 < xs.length → gd xs i 0 ≤ gd xs (i + 1) 0 := fun i hi => by
      have := h (xs.length - 2 - i) (by omega)
      simp only [decide_eq_true_eq] at this
      rwa [show xs.length - 2 - (xs.length - 2 - i) = i by omega, show xs.length - 1 - (xs.length - 2 - i) = i + 1 by omega] at this
    exact .inl ⟨upB_iff.2 h', h'⟩
  · have hat' : gd xs (xs.length - 1 - j) 0 < gd xs (xs.length - 2 - j) 0 := Int.not_le.1 (by simpa using hat)
    refine .inr ⟨?_, j, by omega, fun i hi => by simpa using hb i hi, hat'⟩
    cases hl : upB xs with
    | false => rfl
    | true =>
      have := upB_iff.1 hl (xs.length - 2 - j) (by omega)
      rw [show xs.length - 2 - j + 1 = xs.length - 1 - j by omega] at this
      omega
end Go.Rx
namespace Go.Rx.Px
def chainB (c : Ch) : Bool := decide (c.1.length ≤ 6) && (c.1.all (inRg 0 20) && (inRg 1 3 c.2.1.length && (decide (c.2.2.length = c.2.1.length) && (c.2.1.all (inRg 0 99) && (c.2.2.all (inRg 0 9) && upB c.2.2)))))
structure ChainP (c : Ch) : Prop where
  n : c.1.length ≤ 6
  s1 : 1 ≤ c.2.1.length
  s3 : c.2.1.length ≤ 3
  l : c.2.2.length = c.2.1.length
  b0 : bd 20 c.1
  b1 : bd 99 c.2.1
  b2 : bd 9 c.2.2
  up : ∀ i, i + 1 < c.2.2.length → gd c.2.2 i 0 ≤ gd c.2.2 (i + 1) 0
theorem chainP {c : Ch} (h : chainB c = true) : ChainP c := by
  simp only [chainB, Bool.and_eq_true, decide_eq_true_eq, bd_iff, inRg, upB_iff] at h
  obtain ⟨h1, h2, ⟨h3, h4⟩, h5, h6, h7, h8⟩ := h
  exact ⟨h1, by omega, by omega, h5, h2, h6, h7, h8⟩
structure SmCh (c : Ch) : Prop where
  s0 : c.1.length < 4194304
  s1 : c.2.1.length < 4194304
  s2 : c.2.2.length < 4194304
theorem cmp_Less_int_eq (N : Nat) (x y : Int) : cmp_Less_int N x y = some (decide (x < y), ()) := by
  simp only [cmp_Less_int, cmp_isNaN_int, ine_eq, decide_true, Bool.not_true, Option.bind_some, cond_false, ilt_eq]
theorem slices_IsSorted_int_int_eq {N : Nat} {xs : List Int} (hs : xs.length < 4194304) (hN : 4194304 ≤ N) : slices_IsSorted_int_int N xs = some (upB xs, ()) := by
  have e0 : isub .i64 (len xs) 1 = (xs.length : Int) - 1 - (0 : Nat) := by rw [len_eq, isub_in (by omega) (by omega)]; omega
  simp only [slices_IsSorted_int_int, e0]
  have step : ∀ i, i + 1 < xs.length → ∀ kx, slices_IsSorted_int_int_B1 N kx xs ((xs.length : Int) - 1 - i) = bif decide (gd xs (xs.length - 1 - i) 0 < gd xs (xs.length - 2 - i) 0) then some (false, ()) else kx xs ((xs.length : Int) - 1 - (i + 1 : Nat)) := fun i hi kx => by
    have e1 : (xs.length : Int) - 1 - i = ((xs.length - 1 - i : Nat) : Int) := by omega
    have e2 : isub .i64 ((xs.length - 1 - i : Nat) : Int) 1 = ((xs.length - 2 - i : Nat) : Int) := by rw [isub_in (by omega) (by omega)]; omega
    have e3 : (xs.length : Int) - 1 - (i + 1 : Nat) = ((xs.length - 2 - i : Nat) : Int) := by omega
    rw [e1, e3]
    simp only [slices_IsSorted_int_int_B1, ilt_eq, show (0 : Int) < ((xs.length - 1 - i : Nat) : Int) by omega, decide_true, cond_true, e2, inB_true (show xs.length - 1 - i < xs.length by omega), inB_true (show xs.length - 2 - i < xs.length by omega), chk_true', Int.toNat_natCast, cmp_Less_int_eq, Option.bind_some]
  rcases up_right xs with ⟨e, hall⟩ | ⟨e, j, hj, hb, hat⟩
  · rw [e]
    by_cases hl : xs.length = 0
    · refine slices_IsSorted_int_int_L1_run N (fun _ => xs) (fun i => (xs.length : Int) - 1 - i) 0 (fun i hi kx => by omega) (fun kx => ?_) N (by omega)
      simp only [slices_IsSorted_int_int_B1, slices_IsSorted_int_int_K1, ilt_eq, show ¬ (0 : Int) < (xs.length : Int) - 1 - (0 : Nat) by omega, decide_false, cond_false]
    · refine slices_IsSorted_int_int_L1_run N (fun _ => xs) (fun i => (xs.length : Int) - 1 - i) (xs.length - 1) (fun i hi kx => ?_) (fun kx => ?_) N (by omega)
      · have h1 := hall (xs.length - 2 - i) (by omega)
        rw [show xs.length - 2 - i + 1 = xs.length - 1 - i by omega] at h1
        rw [step i (by omega), decide_eq_false (by omega)]; rfl
      · simp only [slices_IsSorted_int_int_B1, slices_IsSorted_int_int_K1, ilt_eq, show ¬ (0 : Int) < (xs.length : Int) - 1 - (xs.length - 1 : Nat) by omega, decide_false, cond_false]
  · rw [e]
    refine slices_IsSorted_int_int_L1_run N (fun _ => xs) (fun i => (xs.length : Int) - 1 - i) j (fun i hi kx => ?_) (fun kx => ?_) N (by omega)
    · have h1 := hb i hi
      rw [step i (by omega), decide_eq_false (by omega)]; rfl
    · rw [step j hj, decide_eq_true hat]; rfl
theorem impl_IsChain_eq {N : Nat} {c : Ch} (hs : SmCh c) (hN : 4194304 ≤ N) : impl_IsChain N c = some (chainB c, ()) := by
  simp only [impl_IsChain, ile_eq, ieq_eq, len_eq, impl_allWithin_eq hs.s0 hN, impl_allWithin_eq hs.s1 hN, impl_allWithin_eq hs.s2 hN, impl_within_eq, slices_IsSorted_int_int_eq hs.s2 hN, Option.bind_some, chainB, len_dec]
  have e : decide ((c.1.length : Int) ≤ 6) = decide (c.1.length ≤ 6) := by rw [decide_eq_decide]; omega
  rw [e]
  cases decide (c.1.length ≤ 6) <;> cases c.1.all (inRg 0 20) <;> cases inRg 1 3 c.2.1.length <;> cases decide (c.2.2.length = c.2.1.length) <;> cases c.2.1.all (inRg 0 99) <;> cases c.2.2.all (inRg 0 9) <;> rfl
theorem spec_l7Good_eq {N : Nat} {c : Ch} (hs : SmCh c) (hN : 4194304 ≤ N) : spec_l7Good N c = some (chainB c, ()) := by
  simp only [spec_l7Good, ilt_eq, len_eq, spec_l2Row_eq hs.s0 hN, spec_l2Row_eq hs.s1 hN, spec_l2Row_eq hs.s2 hN, spec_l1In_eq, Option.bind_some, chainB, bif_not, len_dec, decide_true, Bool.and_true]
  have e : decide ((6 : Int) < c.1.length) = !decide (c.1.length ≤ 6) := by
    by_cases h : c.1.length ≤ 6
    · simp [h]; omega
    · simp [h]; omega
  rw [e, bif_not]
  have hloop : spec_l7Good_L1 N N 1 c = some (upB c.2.2, ()) := by
    have s2 := hs.s2
    have step : ∀ i, i + 1 < c.2.2.length → ∀ kx, spec_l7Good_B1 N kx ((1 + i : Nat) : Int) c = bif decide (gd c.2.2 (i + 1) 0 < gd c.2.2 i 0) then some (false, ()) else kx ((1 + (i + 1) : Nat) : Int) c := fun i hi kx => by
      have e1 : isub .i64 ((i + 1 : Nat) : Int) 1 = (i : Int) := by rw [isub_in (by omega) (by omega)]; omega
      rw [show 1 + i = i + 1 by omega, show 1 + (i + 1) = i + 1 + 1 by omega]
      simp only [spec_l7Good_B1, ilt_eq, len_eq, Int.ofNat_lt, hi, decide_true, cond_true, inB_true hi, inB_true (show i < c.2.2.length by omega), chk_true', e1, Int.toNat_natCast, iadd_nat (show i + 1 < 4611686018427387904 by omega)]
    rcases up_left c.2.2 with ⟨e, hall⟩ | ⟨e, j, hj, hb, hat⟩
    · rw [e]
      refine spec_l7Good_L1_run N (fun i => ((1 + i : Nat) : Int)) (fun _ => c) (c.2.2.length - 1) (fun i hi kx => ?_) (fun kx => ?_) N (by omega)
      · have h1 := hall i (by omega)
        rw [step i (by omega), decide_eq_false (by omega)]; rfl
      · simp only [spec_l7Good_B1, spec_l7Good_K1, ilt_eq, len_eq, Int.ofNat_lt, show ¬ 1 + (c.2.2.length - 1) < c.2.2.length by omega, decide_false, cond_false]
    · rw [e]
      refine spec_l7Good_L1_run N (fun i => ((1 + i : Nat) : Int)) (fun _ => c) j (fun i hi kx => ?_) (fun kx => ?_) N (by omega)
      · have h1 := hb i hi
        rw [step i (by omega), decide_eq_false (by omega)]; rfl
      · rw [step j hj, decide_eq_true hat]; rfl
  rw [hloop]
  cases decide (c.1.length ≤ 6) <;> cases c.1.all (inRg 0 20) <;> cases inRg 1 3 c.2.1.length <;> cases decide (c.2.2.length = c.2.1.length) <;> cases c.2.1.all (inRg 0 99) <;> cases c.2.2.all (inRg 0 9) <;> rfl
theorem laws_szChain_eq (N : Nat) {c : Ch} {left : Int} (h : RngCh c) (h1 : 0 ≤ left) (h2 : left ≤ 1048576) : ∃ r, laws_szChain N c left = some (r, ()) ∧ (r < 0 ∨ 0 ≤ r ∧ r ≤ left ∧ SmCh c) := by
  simp only [laws_szChain, ilt_eq]
  obtain ⟨r1, e1, q1⟩ := laws_szIntS_eq N h.1.1 h1 h2
  rcases q1 with q1 | q1
  · exact ⟨-1, by simp [e1, q1], .inl (by omega)⟩
  obtain ⟨r2, e2, q2⟩ := laws_szIntS_eq N h.2.1.1 q1.1 (show r1 ≤ 1048576 by omega)
  have n1 : ¬ r1 < 0 := by omega
  rcases q2 with q2 | q2
  · exact ⟨-1, by simp [e1, e2, q2, n1], .inl (by omega)⟩
  obtain ⟨r3, e3, q3⟩ := laws_szIntS_eq N h.2.2.1 q2.1 (show r2 ≤ 1048576 by omega)
  have n2 : ¬ r2 < 0 := by omega
  rcases q3 with q3 | q3
  · exact ⟨-1, by simp [e1, e2, e3, q3, n1, n2], .inl (by omega)⟩
  have n3 : ¬ r3 < 0 := by omega
  exact ⟨r3, by simp [e1, e2, e3, n1, n2, n3], .inr ⟨by omega, by omega, by omega, by omega, by omega⟩⟩
theorem laws_toChain_eq {N : Nat} {c : Ch} (h : SmCh c) (hN : 4194304 ≤ N) : laws_toChain N c = some (c, ()) := by
  simp only [laws_toChain, laws_toIntS_eq h.s0 hN, laws_toIntS_eq h.s1 hN, laws_toIntS_eq h.s2 hN, Option.bind_some]
theorem laws_eqChain_refl {N : Nat} {c : Ch} (h : SmCh c) (hN : 4194304 ≤ N) : laws_eqChain N c c = some (true, ()) := by
  simp only [laws_eqChain, laws_eqIntS_eq h.s0 hN, laws_eqIntS_eq h.s1 hN, laws_eqIntS_eq h.s2 hN, Option.bind_some, decide_true, Bool.not_true, cond_false]
end Go.Rx.Px
namespace Go.Rx
theorem nn_first (f : Nat → Int) (n : Nat) : ((List.range n).all (fun t => decide (0 ≤ f (t + 1))) = true ∧ ∀ t, t < n → 0 ≤ f (t + 1)) ∨ ((List.range n).all (fun t => decide (0 ≤ f (t + 1))) = false ∧ ∃ j, j < n ∧ (∀ t, t < j → 0 ≤ f (t + 1)) ∧ f (j + 1) < 0) := by
  rcases first_cases (fun t => decide (0 ≤ f (t + 1))) n with h | ⟨j, hj, hb, hat⟩
  · exact .inl ⟨rangeB.2 h, fun t ht => by simpa using h t ht⟩
  · have hat' : f (j + 1) < 0 := Int.not_le.1 (by simpa using hat)
    refine .inr ⟨?_, j, hj, fun i hi => by simpa using hb i hi, hat'⟩
    cases hl : (List.range n).all (fun t => decide (0 ≤ f (t + 1))) with
    | false => rfl
    | true => exact absurd (rangeB.1 hl j hj) (by simp [hat'])
theorem range_cases (p : Nat → Bool) (n : Nat) : ((List.range n).all p = true ∧ ∀ t, t < n → p t = true) ∨ ((List.range n).all p = false ∧ ∃ j, j < n ∧ (∀ t, t < j → p t = true) ∧ p j = false) := by
  rcases first_cases p n with h | ⟨j, hj, hb, hat⟩
  · exact .inl ⟨rangeB.2 h, h⟩
  · refine .inr ⟨?_, j, hj, hb, hat⟩
    cases hl : (List.range n).all p with
    | false => rfl
    | true => exact absurd (rangeB.1 hl j hj) (by simp [hat])
abbrev Pl := List (List Int)
structure SmPl (p : Pl) : Prop where
  l : p.length < 4194304
  r : ∀ s, s < p.length → (gd p s []).length < 4194304
end Go.Rx
namespace Go.Rx.Px
theorem lenP_dec (a : Pl) (b : List Int) : decide ((a.length : Int) = b.length) = decide (a.length = b.length) := by rw [decide_eq_decide]; omega
theorem szIntSS_loop (N : Nat) {a : Pl} (h : RngII a) (hl : a.length ≤ 1048576) : ∀ d i, a.length - i = d → ∀ left : Int, 0 ≤ left → left ≤ 1048576 → ∃ r, (∀ m, d < m → laws_szIntSS_L1 N m a left i = some (r, ())) ∧ (r < 0 ∨ 0 ≤ r ∧ r ≤ left ∧ ∀ s, i ≤ s → s < a.length → (gd a s []).length < 4194304) := by
  intro d
  induction d with
  | zero =>
    intro i hi left h1 h2
    refine ⟨left, fun m hm => ?_, .inr ⟨h1, Int.le_refl _, fun s h3 h4 => by omega⟩⟩
    obtain ⟨m, rfl⟩ : ∃ q, m = q + 1 := ⟨m - 1, by omega⟩
    rw [laws_szIntSS_L1_succ]
    simp only [laws_szIntSS_B1, laws_szIntSS_K1, ilt_eq, len_eq, Int.ofNat_lt, show ¬ i < a.length by omega, decide_false, cond_false]
  | succ d ih =>
    intro i hi left h1 h2
    have hil : i < a.length := by omega
    obtain ⟨r1, e1, q1⟩ := laws_szIntS_eq N (h.2 i hil).1 h1 h2
    rcases q1 with q1 | q1
    · refine ⟨-1, fun m hm => ?_, .inl (by omega)⟩
      obtain ⟨m, rfl⟩ : ∃ q, m = q + 1 := ⟨m - 1, by omega⟩
      have e1' : laws_szIntS N (gd a i []) left = some (r1, ()) := e1
      rw [laws_szIntSS_L1_succ]
      simp only [laws_szIntSS_B1, ilt_eq, len_eq, Int.ofNat_lt, hil, decide_true, cond_true, inB_true hil, chk_true', Int.toNat_natCast, e1', Option.bind_some, q1]
    · obtain ⟨r, g1, g2⟩ := ih (i + 1) (by omega) r1 q1.1 (by omega)
      refine ⟨r, fun m hm => ?_, ?_⟩
      · obtain ⟨m, rfl⟩ : ∃ q, m = q + 1 := ⟨m - 1, by omega⟩
        have e1' : laws_szIntS N (gd a i []) left = some (r1, ()) := e1
        rw [laws_szIntSS_L1_succ]
        simp only [laws_szIntSS_B1, ilt_eq, len_eq, Int.ofNat_lt, hil, decide_true, cond_true, inB_true hil, chk_true', Int.toNat_natCast, e1', Option.bind_some, show ¬ r1 < 0 by omega, decide_false, cond_false]
        rw [iadd_nat (by omega)]
        exact g1 m (by omega)
      · rcases g2 with g2 | ⟨g2, g3, g4⟩
        · exact .inl g2
        · refine .inr ⟨g2, by omega, fun s h3 h4 => ?_⟩
          by_cases e : s = i
          · subst e
            have : (gd a s []).length = (a.getD s []).length := rfl
            omega
          · exact g4 s (by omega) h4
theorem laws_szIntSS_eq {N : Nat} {a : Pl} {left : Int} (h : RngII a) (h1 : 0 ≤ left) (h2 : left ≤ 1048576) (hN : 4194304 ≤ N) : ∃ r, laws_szIntSS N a left = some (r, ()) ∧ (r < 0 ∨ 0 ≤ r ∧ r ≤ left ∧ SmPl a) := by
  have hl := h.1
  unfold maxLen at hl
  simp only [laws_szIntSS, len_eq, ilt_eq, isub_in (show -9223372036854775808 ≤ left - a.length by omega) (by omega)]
  by_cases h3 : left - a.length < 0
  · exact ⟨-1, by simp [h3], .inl (by omega)⟩
  · obtain ⟨r, g1, g2⟩ := szIntSS_loop N h (by omega) a.length 0 (by omega) (left - a.length) (by omega) (by omega)
    refine ⟨r, by simp only [h3, decide_false, cond_false]; exact g1 N (by omega), ?_⟩
    rcases g2 with g2 | ⟨g2, g3, g4⟩
    · exact .inl g2
    · exact .inr ⟨g2, by omega, ⟨by omega, fun s hs => g4 s (by omega) hs⟩⟩
theorem laws_toIntSS_eq {N : Nat} {a : Pl} (h : SmPl a) (hN : 4194304 ≤ N) : laws_toIntSS N a = some (a, ()) := by
  have hl := h.l
  simp only [laws_toIntSS, len_eq, chk_of (mkB_in hl (show 24 ≤ 1024 by omega)), Int.toNat_natCast]
  refine laws_toIntSS_L1_run N (fun _ => a) (fun i => i) (fun i => a.take i ++ List.replicate (a.length - i) []) a.length (fun i hi kx => ?_) (fun kx => ?_) N (by omega)
  · simp only [laws_toIntSS_B1, ilt_eq, len_eq, Int.ofNat_lt, hi, decide_true, cond_true, inB_true hi, chk_true', Int.toNat_natCast, iadd_nat (show i < 4611686018427387904 by omega), laws_toIntS_eq (h.r i hi) hN, Option.bind_some]
    rw [chk_of (inB_true (by simp; omega))]
    congr 1
    rw [take_succ a i [] hi, List.set_append, if_neg (by simp; omega), List.append_assoc]
    congr 1
    rw [show a.length - i = (a.length - (i + 1)) + 1 by omega, List.replicate_succ]
    simp [Nat.min_eq_left (Nat.le_of_lt hi)]
  · simp [laws_toIntSS_B1, laws_toIntSS_K1]
theorem laws_eqIntSS_refl {N : Nat} {a : Pl} (h : SmPl a) (hN : 4194304 ≤ N) : laws_eqIntSS N a a = some (true, ()) := by
  have hl := h.l
  simp only [laws_eqIntSS, ine_eq, len_eq, decide_true, Bool.not_true, cond_false]
  refine laws_eqIntSS_L1_run N (fun _ => a) (fun _ => a) (fun i => i) a.length (fun i hi kx => ?_) (fun kx => ?_) N (by omega)
  · simp only [laws_eqIntSS_B1, ilt_eq, len_eq, Int.ofNat_lt, hi, decide_true, cond_true, inB_true hi, chk_true', Int.toNat_natCast, iadd_nat (show i < 4611686018427387904 by omega), laws_eqIntS_eq (h.r i hi) hN, Option.bind_some, Bool.not_true, cond_false]
  · simp only [laws_eqIntSS_B1, laws_eqIntSS_K1, ilt_eq, len_eq, Int.lt_irrefl, decide_false, cond_false]
def nxt (c : Ch) (plan : Pl) (s : Nat) : List Int := if s + 1 < plan.length then gd plan (s + 1) [] else c.1
def stS (c : Ch) (plan : Pl) (s t : Nat) : Int := stockAt (gd plan s []) (nxt c plan s) t
def stRow (c : Ch) (plan : Pl) (s : Nat) : List Int := stocksL (gd plan s []) (nxt c plan s) c.1.length
def rowOk (c : Ch) (xs : List Int) : Bool := decide (xs.length = c.1.length) && xs.all (inRg 0 120)
def nnS (c : Ch) (plan : Pl) (s : Nat) : Bool := (List.range c.1.length).all fun t => decide (0 ≤ stS c plan s (t + 1))
def stageOk (c : Ch) (plan : Pl) (s : Nat) : Bool := (rowOk c (gd plan s []) && rowOk c (nxt c plan s)) && (nnS c plan s && decide (stS c plan s c.1.length = 0))
def chPlanB (c : Ch) (plan : Pl) : Bool := decide (plan.length = c.2.1.length) && (List.range plan.length).all (stageOk c plan)
theorem rowOk_out {c : Ch} {xs : List Int} (h : rowOk c xs = true) : xs.length = c.1.length ∧ bd 120 xs := by
  simp only [rowOk, Bool.and_eq_true, decide_eq_true_eq, bd_iff] at h; exact h
theorem st_bd {c : Ch} (hc : ChainP c) {r x : List Int} (hr : rowOk c r = true) (hx : rowOk c x = true) {t : Nat} (ht : t ≤ c.1.length) : -720 ≤ stockAt r x t ∧ stockAt r x t ≤ 720 := by
  obtain ⟨l1, b1⟩ := rowOk_out hr
  obtain ⟨l2, b2⟩ := rowOk_out hx
  have h1 := psum_bd b1 t (by omega)
  have h2 := psum_bd b2 t (by omega)
  have h6 := hc.n
  simp only [stockAt]; omega
theorem impl_stage {N : Nat} {c : Ch} (hc : ChainP c) {r x : List Int} (hr : r.length < 4194304) (hx : x.length < 4194304) (plan acc : Pl) (s : Nat) (ha : acc.length < 4000) (hs : s < 4000) (kx : Pl → Pl → Int → Int → Ch → Pl → Option ((Pl × Bool) × Unit)) (hN : 4194304 ≤ N) :
    impl_Chain_stocks_K2 N kx plan r x plan plan.length s c acc = bif (rowOk c r && rowOk c x) && ((List.range c.1.length).all (fun t => decide (0 ≤ stockAt r x (t + 1))) && decide (stockAt r x c.1.length = 0)) then kx plan plan plan.length ((s + 1 : Nat) : Int) c (acc ++ [stocksL r x c.1.length]) else some (([], false), ()) := by
  have h6 := hc.n
  simp only [impl_Chain_stocks_K2, ine_eq, len_eq, len_dec, impl_allWithin_eq hr hN, impl_allWithin_eq hx hN, Option.bind_some, bif_not]
  cases d1 : decide (r.length = c.1.length) with
  | false => simp [rowOk, d1]
  | true =>
  cases d2 : decide (x.length = c.1.length) with
  | false => simp [rowOk, d1, d2]
  | true =>
  cases a1 : r.all (inRg 0 120) with
  | false => simp [rowOk, d1, d2, a1]
  | true =>
  cases a2 : x.all (inRg 0 120) with
  | false => simp [rowOk, d1, d2, a1, a2]
  | true =>
    have o1 : rowOk c r = true := by simp [rowOk, d1, a1]
    have o2 : rowOk c x = true := by simp [rowOk, d2, a2]
    obtain ⟨l1, b1⟩ := rowOk_out o1
    obtain ⟨l2, b2⟩ := rowOk_out o2
    rw [o1, o2]
    simp only [cond_true, Bool.and_self, Bool.true_and]
    have hsl : ∀ i, (stocksL r x i).length = i := stocksL_len r x
    have e0 : (0 : Int) = stockAt r x 0 := (stockAt_zero _ _).symm
    have step : ∀ i, i < c.1.length → ∀ kx1, impl_Chain_stocks_B1 N kx kx1 plan x (stockAt r x i) plan plan.length s x x.length c.1 c.1.length (!decide (x.length = c.1.length)) r true false x true false r r.length i c acc (stocksL r x i) =
        bif decide (stockAt r x (i + 1) < 0) then some (([], false), ()) else kx1 plan x (stockAt r x (i + 1)) plan plan.length s x x.length c.1 c.1.length (!decide (x.length = c.1.length)) r true false x true false r r.length ((i + 1 : Nat) : Int) c acc (stocksL r x (i + 1)) := fun i hi kx1 => by
      have s1 := st_bd hc o1 o2 (t := i) (by omega)
      have p1 := b1 i (by omega)
      have p2 := b2 i (by omega)
      have e1 : iadd .i64 (stockAt r x i) (isub .i64 (gd r i 0) (gd x i 0)) = stockAt r x (i + 1) := by
        rw [stockAt_succ (by omega) (by omega), isub_in (by omega) (by omega), iadd_in (by omega) (by omega)]
      simp only [impl_Chain_stocks_B1, ilt_eq, Int.ofNat_lt, show i < r.length by omega, decide_true, cond_true, inB_true (show i < r.length by omega), inB_true (show i < x.length by omega), chk_true', Int.toNat_natCast, e1, hsl, chk_of (fitB_in (n := i + 1) (b := 8) (by omega) (by omega)), iadd_nat (show i < 4611686018427387904 by omega), stocksL_succ]
    rcases nn_first (stockAt r x) c.1.length with ⟨e, hall⟩ | ⟨e, j, hj, hb, hat⟩
    · rw [e]
      have := impl_Chain_stocks_L1_run N kx (fun _ => plan) (fun _ => x) (fun i => stockAt r x i) (fun _ => plan) (fun _ => (plan.length : Int)) (fun _ => (s : Int)) (fun _ => x) (fun _ => (x.length : Int)) (fun _ => c.1) (fun _ => (c.1.length : Int)) (fun _ => !decide (x.length = c.1.length)) (fun _ => r) (fun _ => true) (fun _ => false) (fun _ => x) (fun _ => true) (fun _ => false) (fun _ => r) (fun _ => (r.length : Int)) (fun i => (i : Int)) (fun _ => c) (fun _ => acc) (fun i => stocksL r x i) c.1.length (res_ := bif true && decide (stockAt r x c.1.length = 0) then kx plan plan plan.length ((s + 1 : Nat) : Int) c (acc ++ [stocksL r x c.1.length]) else some (([], false), ())) (fun i hi kx1 => by rw [step i hi, decide_eq_false (by have := hall i hi; omega)]; rfl) (fun kx1 => ?_) N (by omega)
      · rw [stockAt_zero] at this
        rw [← this]
        simp only [d2, Bool.not_true]
        rfl
      · simp only [impl_Chain_stocks_B1, impl_Chain_stocks_K1, ilt_eq, Int.ofNat_lt, show ¬ c.1.length < r.length by omega, decide_false, cond_false, ine_eq, bif_not, Bool.true_and, chk_of (fitB_in (n := acc.length + 1) (b := 24) (by omega) (by omega)), iadd_nat (show s < 4611686018427387904 by omega)]
    · rw [e]
      have := impl_Chain_stocks_L1_run N kx (fun _ => plan) (fun _ => x) (fun i => stockAt r x i) (fun _ => plan) (fun _ => (plan.length : Int)) (fun _ => (s : Int)) (fun _ => x) (fun _ => (x.length : Int)) (fun _ => c.1) (fun _ => (c.1.length : Int)) (fun _ => !decide (x.length = c.1.length)) (fun _ => r) (fun _ => true) (fun _ => false) (fun _ => x) (fun _ => true) (fun _ => false) (fun _ => r) (fun _ => (r.length : Int)) (fun i => (i : Int)) (fun _ => c) (fun _ => acc) (fun i => stocksL r x i) j (res_ := some (([], false), ())) (fun i hi kx1 => by rw [step i (by omega), decide_eq_false (by have := hb i hi; omega)]; rfl) (fun kx1 => by rw [step j hj, decide_eq_true hat]; rfl) N (by omega)
      rw [stockAt_zero] at this
      simp only [Bool.false_and, cond_false]
      rw [← this]
      simp only [d2, Bool.not_true]
      rfl
theorem nxt_sm {c : Ch} {plan : Pl} (hc : SmCh c) (hp : SmPl plan) (s : Nat) : (nxt c plan s).length < 4194304 := by
  simp only [nxt]; split
  · exact hp.r _ (by assumption)
  · exact hc.s0
theorem impl_Chain_stocks_eq {N : Nat} {c : Ch} {plan : Pl} (hc : ChainP c) (hs : SmCh c) (hp : SmPl plan) (hN : 4194304 ≤ N) : impl_Chain_stocks N c plan = some (bif chPlanB c plan then ((List.range plan.length).map (stRow c plan), true) else ([], false), ()) := by
  have h3 := hc.s3
  simp only [impl_Chain_stocks, ine_eq, len_eq, lenP_dec, bif_not, chPlanB]
  cases hl : decide (plan.length = c.2.1.length) with
  | false => rfl
  | true =>
    have hl' : plan.length = c.2.1.length := by simpa using hl
    have step : ∀ s, s < plan.length → ∀ kx, impl_Chain_stocks_B2 N kx plan plan plan.length s c ((List.range s).map (stRow c plan)) = bif stageOk c plan s then kx plan plan plan.length ((s + 1 : Nat) : Int) c ((List.range (s + 1)).map (stRow c plan)) else some (([], false), ()) := fun s hsl kx => by
      have hln : ((List.range s).map (stRow c plan)).length = s := by simp
      have hk := impl_stage hc (hp.r s hsl) (nxt_sm hs hp s) plan ((List.range s).map (stRow c plan)) s (by omega) (by omega) kx hN
      simp only [impl_Chain_stocks_B2, ilt_eq, len_eq, Int.ofNat_lt, hsl, decide_true, cond_true, inB_true hsl, chk_true', Int.toNat_natCast, iadd_nat (show s < 4611686018427387904 by omega)]
      by_cases hn : s + 1 < plan.length
      · simp only [hn, decide_true, cond_true, inB_true hn, chk_true']
        rw [nxt, if_pos hn] at hk
        rw [hk, map_range_succ]
        simp only [stageOk, nnS, stS, stRow, nxt, if_pos hn]
      · simp only [hn, decide_false, cond_false]
        rw [nxt, if_neg hn] at hk
        rw [hk, map_range_succ]
        simp only [stageOk, nnS, stS, stRow, nxt, if_neg hn]
    simp only [cond_true, Bool.true_and]
    rcases range_cases (stageOk c plan) plan.length with ⟨e, hall⟩ | ⟨e, j, hj, hb, hat⟩
    · rw [e]
      refine impl_Chain_stocks_L2_run N (fun _ => plan) (fun _ => plan) (fun _ => (plan.length : Int)) (fun s => (s : Int)) (fun _ => c) (fun s => (List.range s).map (stRow c plan)) plan.length (fun s hsl kx => by rw [step s hsl, hall s hsl]; rfl) (fun kx => ?_) N (by omega)
      simp only [impl_Chain_stocks_B2, impl_Chain_stocks_K3, ilt_eq, Int.lt_irrefl, decide_false, cond_false, cond_true]
    · rw [e]
      exact impl_Chain_stocks_L2_run N (fun _ => plan) (fun _ => plan) (fun _ => (plan.length : Int)) (fun s => (s : Int)) (fun _ => c) (fun s => (List.range s).map (stRow c plan)) j (fun s hsl kx => by rw [step s (by omega), hb s hsl]; rfl) (fun kx => by rw [step j hj, hat]; rfl) N (by omega)
theorem impl_linked_eq {N : Nat} {c : Ch} {plan : Pl} (hs : SmCh c) (hp : SmPl plan) (hN : 4194304 ≤ N) : impl_linked N c plan = some (bif chainB c && chPlanB c plan then ((List.range plan.length).map (stRow c plan), true) else ([], false), ()) := by
  simp only [impl_linked, impl_IsChain_eq hs hN, Option.bind_some, bif_not]
  cases hb : chainB c with
  | false => rfl
  | true => simp only [cond_true, impl_Chain_stocks_eq (chainP hb) hs hp hN, Option.bind_some, Bool.true_and]
theorem nxt_ok {c : Ch} {plan : Pl} (hc : ChainP c) (h : ∀ s, s < plan.length → rowOk c (gd plan s []) = true) (s : Nat) : rowOk c (nxt c plan s) = true := by
  simp only [nxt]; split
  · exact h _ (by assumption)
  · simp only [rowOk, decide_true, Bool.true_and, bd_iff]
    exact fun i hi => by have := hc.b0 i hi; omega
theorem spec_l7Stocks_eq {N : Nat} {c : Ch} {plan : Pl} (hc : ChainP c) (hl : plan.length ≤ 3) (h : ∀ s, s < plan.length → rowOk c (gd plan s []) = true) (hN : 4194304 ≤ N) : spec_l7Stocks N c plan = some ((List.range plan.length).map (stRow c plan), ()) := by
  have h6 := hc.n
  refine spec_l7Stocks_L2_run N (fun _ => plan) (fun s => (s : Int)) (fun _ => c) (fun s => (List.range s).map (stRow c plan)) plan.length (fun s hs kx => ?_) (fun kx => ?_) N (by omega)
  · have o1 := h s hs
    have o2 := nxt_ok hc h s
    obtain ⟨l1, b1⟩ := rowOk_out o1
    obtain ⟨l2, b2⟩ := rowOk_out o2
    have hln : ((List.range s).map (stRow c plan)).length = s := by simp
    have hsl : ∀ i, (stocksL (gd plan s []) (nxt c plan s) i).length = i := stocksL_len _ _
    simp only [spec_l7Stocks_B2, ilt_eq, len_eq, Int.ofNat_lt, hs, decide_true, cond_true]
    have := spec_l7Stocks_L1_run N kx (fun _ => plan) (fun _ => (s : Int)) (fun t => stS c plan s t) (fun t => (t : Int)) (fun _ => c) (fun _ => (List.range s).map (stRow c plan)) (fun t => stocksL (gd plan s []) (nxt c plan s) t) c.1.length (res_ := kx plan ((s + 1 : Nat) : Int) c ((List.range (s + 1)).map (stRow c plan))) (fun t ht kx1 => ?_) (fun kx1 => ?_) N (by omega)
    · rw [show stS c plan s 0 = 0 from stockAt_zero _ _] at this
      exact this
    · have s1 := st_bd hc o1 o2 (t := t) (by omega)
      have p1 := b1 t (by omega)
      have p2 := b2 t (by omega)
      have eo : spec_l7Out N c plan s t = some (gd (nxt c plan s) t 0, ()) := by
        simp only [spec_l7Out, ilt_eq, len_eq, iadd_nat (show s < 4611686018427387904 by omega), Int.ofNat_lt]
        by_cases hn : s + 1 < plan.length
        · have : t < (gd plan (s + 1) []).length := by have := (rowOk_out (h (s + 1) hn)).1; omega
          simp only [hn, decide_true, cond_true, inB_true hn, chk_true', Int.toNat_natCast, inB_true this, nxt, if_true]
        · simp only [hn, decide_false, cond_false, inB_true ht, chk_true', Int.toNat_natCast, nxt, if_false]
      have e1 : isub .i64 (iadd .i64 (stS c plan s t) (gd (gd plan s []) t 0)) (gd (nxt c plan s) t 0) = stS c plan s (t + 1) := by
        simp only [stS]
        rw [stockAt_succ (by omega) (by omega), iadd_in (by omega) (by omega), isub_in (by omega) (by omega)]; omega
      simp only [spec_l7Stocks_B1, ilt_eq, len_eq, Int.ofNat_lt, ht, decide_true, cond_true, inB_true hs, inB_true (show t < (gd plan s []).length by omega), chk_true', Int.toNat_natCast, eo, Option.bind_some, hsl, chk_of (fitB_in (n := t + 1) (b := 8) (by omega) (by omega)), e1, iadd_nat (show t < 4611686018427387904 by omega), stocksL_succ]
      rfl
    · simp only [spec_l7Stocks_B1, spec_l7Stocks_K1, ilt_eq, len_eq, Int.lt_irrefl, decide_false, cond_false, hln, chk_of (fitB_in (n := s + 1) (b := 24) (by omega) (by omega)), iadd_nat (show s < 4611686018427387904 by omega), map_range_succ]
      rfl
  · simp only [spec_l7Stocks_B2, spec_l7Stocks_K2, ilt_eq, len_eq, Int.lt_irrefl, decide_false, cond_false]
def cellOk (c : Ch) (plan : Pl) (s t : Nat) : Bool := !decide (stS c plan s (t + 1) < 0) && (!decide (t + 1 = c.1.length) || !decide (0 < stS c plan s (t + 1)))
def rowChk (c : Ch) (plan : Pl) (s : Nat) : Bool := (List.range c.1.length).all (cellOk c plan s)
theorem rowChk_eq (c : Ch) (plan : Pl) (s : Nat) : rowChk c plan s = (nnS c plan s && decide (stS c plan s c.1.length = 0)) := by
  rw [Bool.eq_iff_iff]
  simp only [rowChk, nnS, Bool.and_eq_true, rangeB, cellOk, Bool.not_eq_true', decide_eq_false_iff_not, Bool.or_eq_true, decide_eq_true_eq]
  constructor
  · intro h
    refine ⟨fun t ht => by have := (h t ht).1; omega, ?_⟩
    rcases Nat.eq_zero_or_pos c.1.length with e | e
    · rw [e]; exact stockAt_zero _ _
    · obtain ⟨h1, h2⟩ := h (c.1.length - 1) (by omega)
      rw [show c.1.length - 1 + 1 = c.1.length by omega] at h1 h2
      rcases h2 with h2 | h2 <;> omega
  · intro ⟨h1, h2⟩ t ht
    have := h1 t ht
    refine ⟨by omega, ?_⟩
    by_cases e : t + 1 = c.1.length
    · right; rw [e]; omega
    · left; exact e
theorem plan_same {c : Ch} (hc : ChainP c) (plan : Pl) : (decide (plan.length = c.2.1.length) && ((List.range plan.length).all (fun s => rowOk c (gd plan s [])) && (List.range plan.length).all (rowChk c plan))) = chPlanB c plan := by
  rw [Bool.eq_iff_iff]
  simp only [chPlanB, Bool.and_eq_true, rangeB, rowChk_eq, stageOk]
  constructor
  · rintro ⟨h1, h2, h3⟩
    exact ⟨h1, fun s hs => ⟨⟨h2 s hs, nxt_ok hc h2 s⟩, h3 s hs⟩⟩
  · rintro ⟨h1, h2⟩
    exact ⟨h1, fun s hs => (h2 s hs).1.1, fun s hs => (h2 s hs).2⟩
theorem stRow_len (c : Ch) (plan : Pl) (s : Nat) : (stRow c plan s).length = c.1.length := stocksL_len _ _ _
theorem stRow_gd (c : Ch) (plan : Pl) (s : Nat) {t : Nat} (ht : t < c.1.length) : gd (stRow c plan s) t 0 = stS c plan s (t + 1) := stocksL_gd _ _ ht
theorem gdl_map {f : Nat → List Int} {n i : Nat} (h : i < n) : gd ((List.range n).map f) i [] = f i := gd_map_range _ _ h
theorem spec_l7Plan_eq {N : Nat} {c : Ch} {plan : Pl} (hc : ChainP c) (hp : SmPl plan) (hN : 4194304 ≤ N) : spec_l7Plan N c plan = some (chPlanB c plan, ()) := by
  have h3 := hc.s3
  have h6 := hc.n
  rw [← plan_same hc]
  simp only [spec_l7Plan, ine_eq, len_eq, lenP_dec, bif_not]
  cases hl : decide (plan.length = c.2.1.length) with
  | false => rfl
  | true =>
    have hl' : plan.length = c.2.1.length := by simpa using hl
    simp only [cond_true, Bool.true_and]
    have step : ∀ s, s < plan.length → ∀ kx, spec_l7Plan_B3 N kx plan s c = bif rowOk c (gd plan s []) then kx plan ((s + 1 : Nat) : Int) c else some (false, ()) := fun s hs kx => by
      simp only [spec_l7Plan_B3, ilt_eq, len_eq, Int.ofNat_lt, hs, decide_true, cond_true, inB_true hs, chk_true', Int.toNat_natCast, spec_l2Row_eq (hp.r s hs) hN, Option.bind_some, bif_not, rowOk, len_dec, iadd_nat (show s < 4611686018427387904 by omega), Bool.and_comm (List.all _ _)]
    rcases range_cases (fun s => rowOk c (gd plan s [])) plan.length with ⟨e, hall⟩ | ⟨e, j, hj, hb, hat⟩
    · rw [e]
      refine spec_l7Plan_L3_run N (fun _ => plan) (fun s => (s : Int)) (fun _ => c) plan.length (fun s hs kx => by rw [step s hs, hall s hs]; rfl) (fun kx => ?_) N (by omega)
      simp only [spec_l7Plan_B3, spec_l7Plan_K3, ilt_eq, len_eq, Int.lt_irrefl, decide_false, cond_false, spec_l7Stocks_eq hc (show plan.length ≤ 3 by omega) hall hN, Option.bind_some, Bool.true_and]
      have hlm : ((List.range plan.length).map (stRow c plan)).length = plan.length := by simp
      have cell : ∀ s, s < plan.length → ∀ t, t < c.1.length → ∀ kx1 kx2, spec_l7Plan_B1 N kx1 kx2 s t ((List.range plan.length).map (stRow c plan)) = bif cellOk c plan s t then kx2 s ((t + 1 : Nat) : Int) ((List.range plan.length).map (stRow c plan)) else some (false, ()) := fun s hs t ht kx1 kx2 => by
        have ei : decide (((t + 1 : Nat) : Int) = (c.1.length : Int)) = decide (t + 1 = c.1.length) := by rw [decide_eq_decide]; omega
        simp only [spec_l7Plan_B1, hlm, inB_true hs, chk_true', Int.toNat_natCast, gdl_map hs, len_eq, stRow_len, ilt_eq, ieq_eq, Int.ofNat_lt, ht, decide_true, cond_true, inB_true ht, stRow_gd c plan s ht, iadd_nat (show t < 4611686018427387904 by omega), ei, cellOk]
        cases decide (stS c plan s (t + 1) < 0) <;> cases decide (t + 1 = c.1.length) <;> cases decide (0 < stS c plan s (t + 1)) <;> rfl
      have rowS : ∀ s, s < plan.length → ∀ kx1, spec_l7Plan_B2 N kx1 s ((List.range plan.length).map (stRow c plan)) = bif rowChk c plan s then kx1 ((s + 1 : Nat) : Int) ((List.range plan.length).map (stRow c plan)) else some (false, ()) := fun s hs kx1 => by
        simp only [spec_l7Plan_B2, ilt_eq, len_eq, hlm, Int.ofNat_lt, hs, decide_true, cond_true]
        rcases range_cases (cellOk c plan s) c.1.length with ⟨e, hall⟩ | ⟨e, j, hj, hb, hat⟩
        · rw [rowChk, e]
          refine spec_l7Plan_L1_run N kx1 (fun _ => (s : Int)) (fun t => (t : Int)) (fun _ => (List.range plan.length).map (stRow c plan)) c.1.length (fun t ht kx2 => by rw [cell s hs t ht, hall t ht]; rfl) (fun kx2 => ?_) N (by omega)
          simp only [spec_l7Plan_B1, spec_l7Plan_K1, hlm, inB_true hs, chk_true', Int.toNat_natCast, gdl_map hs, len_eq, stRow_len, ilt_eq, Int.lt_irrefl, decide_false, cond_false, cond_true, iadd_nat (show s < 4611686018427387904 by omega)]
        · rw [rowChk, e]
          exact spec_l7Plan_L1_run N kx1 (fun _ => (s : Int)) (fun t => (t : Int)) (fun _ => (List.range plan.length).map (stRow c plan)) j (fun t ht kx2 => by rw [cell s hs t (by omega), hb t ht]; rfl) (fun kx2 => by rw [cell s hs j hj, hat]; rfl) N (by omega)
      rcases range_cases (rowChk c plan) plan.length with ⟨e2, hall2⟩ | ⟨e2, j, hj, hb, hat⟩
      · rw [e2]
        refine spec_l7Plan_L2_run N (fun s => (s : Int)) (fun _ => (List.range plan.length).map (stRow c plan)) plan.length (fun s hs kx1 => by rw [rowS s hs, hall2 s hs]; rfl) (fun kx1 => ?_) N (by omega)
        simp only [spec_l7Plan_B2, spec_l7Plan_K2, ilt_eq, len_eq, hlm, Int.lt_irrefl, decide_false, cond_false]
      · rw [e2]
        exact spec_l7Plan_L2_run N (fun s => (s : Int)) (fun _ => (List.range plan.length).map (stRow c plan)) j (fun s hs kx1 => by rw [rowS s (by omega), hb s hs]; rfl) (fun kx1 => by rw [rowS j hj, hat]; rfl) N (by omega)
    · rw [e]
      exact spec_l7Plan_L3_run N (fun _ => plan) (fun s => (s : Int)) (fun _ => c) j (fun s hs kx => by rw [step s (by omega), hb s hs]; rfl) (fun kx => by rw [step j hj, hat]; rfl) N (by omega)
theorem spec_l7Two_eq {N : Nat} {c : Ch} {plan : Pl} (hs : SmCh c) (hp : SmPl plan) (hN : 4194304 ≤ N) : spec_l7Two N c plan = some (chainB c && chPlanB c plan, ()) := by
  simp only [spec_l7Two, spec_l7Good_eq hs hN, Option.bind_some]
  cases hb : chainB c with
  | false => rfl
  | true => simp only [cond_true, spec_l7Plan_eq (chainP hb) hp hN, Option.bind_some, Bool.true_and]
structure ChPl (c : Ch) (plan : Pl) : Prop where
  cs : ChainP c
  l : plan.length = c.2.1.length
  r : ∀ s, s < plan.length → rowOk c (gd plan s []) = true
  st : ∀ s, s < plan.length → ∀ t, t ≤ c.1.length → 0 ≤ stS c plan s t ∧ stS c plan s t ≤ 720
theorem chPl {c : Ch} {plan : Pl} (h : (chainB c && chPlanB c plan) = true) : ChPl c plan := by
  simp only [Bool.and_eq_true] at h
  have hc := chainP h.1
  have h2 := h.2
  simp only [chPlanB, Bool.and_eq_true, rangeB, decide_eq_true_eq, stageOk, nnS] at h2
  refine ⟨hc, h2.1, fun s hs => (h2.2 s hs).1.1, fun s hs t ht => ?_⟩
  obtain ⟨⟨o1, o2⟩, hn, _⟩ := h2.2 s hs
  have hb := st_bd hc o1 o2 ht
  refine ⟨?_, hb.2⟩
  rcases Nat.eq_zero_or_pos t with e | e
  · subst e; rw [stS, stockAt_zero]; exact Int.le_refl _
  · have := hn (t - 1) (by omega)
    rwa [show t - 1 + 1 = t by omega] at this
def cellC (c : Ch) (plan : Pl) (s t : Nat) : Int := ifpos (gd (gd plan s []) t 0) (gd c.2.1 s 0) + gd c.2.2 s 0 * stS c plan s (t + 1)
def costCh (c : Ch) (plan : Pl) : Int := rsum (fun s => rsum (cellC c plan s) c.1.length) plan.length
structure CellF (c : Ch) (plan : Pl) (s t : Nat) : Prop where
  m : 0 ≤ gd c.2.2 s 0 * stS c plan s (t + 1) ∧ gd c.2.2 s 0 * stS c plan s (t + 1) ≤ 6480
  i : 0 ≤ ifpos (gd (gd plan s []) t 0) (gd c.2.1 s 0) ∧ ifpos (gd (gd plan s []) t 0) (gd c.2.1 s 0) ≤ 99
  u : 0 ≤ gd c.2.1 s 0 ∧ gd c.2.1 s 0 ≤ 99
theorem cellF {c : Ch} {plan : Pl} (h : ChPl c plan) {s t : Nat} (hs : s < plan.length) (ht : t < c.1.length) : CellF c plan s t := by
  have h1 := h.st s hs (t + 1) (by omega)
  have h2 := h.cs.b1 s (by have := h.l; omega)
  have h3 := h.cs.b2 s (by have := h.l; have := h.cs.l; omega)
  have h4 := mul_bd (B := 720) h3 (show -720 ≤ stS c plan s (t + 1) ∧ stS c plan s (t + 1) ≤ 720 by omega)
  have h5 := Int.mul_nonneg h3.1 h1.1
  refine ⟨by omega, ?_, h2⟩
  simp only [ifpos]; split <;> omega
theorem rowC_bd {c : Ch} {plan : Pl} (h : ChPl c plan) {s : Nat} (hs : s < plan.length) {t : Nat} (ht : t ≤ c.1.length) : 0 ≤ rsum (cellC c plan s) t ∧ rsum (cellC c plan s) t ≤ 6579 * t := by
  have := rsum_bd (f := cellC c plan s) (n := t) (lo := 0) (hi := 6579) (fun k hk => by
    have F := cellF h hs (show k < c.1.length by omega)
    have := F.m; have := F.i
    simp only [cellC]; omega)
  omega
theorem totC_bd {c : Ch} {plan : Pl} (h : ChPl c plan) {s : Nat} (hs : s ≤ plan.length) : 0 ≤ rsum (fun s => rsum (cellC c plan s) c.1.length) s ∧ rsum (fun s => rsum (cellC c plan s) c.1.length) s ≤ 39474 * s := by
  have := rsum_bd (f := fun s => rsum (cellC c plan s) c.1.length) (n := s) (lo := 0) (hi := 39474) (fun k hk => by
    have := rowC_bd h (show k < plan.length by omega) (Nat.le_refl _)
    have := h.cs.n
    omega)
  omega
theorem spec_l7Cost_eq {N : Nat} {c : Ch} {plan : Pl} (h : ChPl c plan) (hN : 4194304 ≤ N) : spec_l7Cost N c plan = some (costCh c plan, ()) := by
  have hc := h.cs
  have h3 := hc.s3
  have h6 := hc.n
  have hl := h.l
  have hll := hc.l
  have hlm : ((List.range plan.length).map (stRow c plan)).length = plan.length := by simp
  simp only [spec_l7Cost, spec_l7Stocks_eq hc (show plan.length ≤ 3 by omega) h.r hN, Option.bind_some]
  refine spec_l7Cost_L2_run N (fun _ => plan) (fun s => rsum (fun s => rsum (cellC c plan s) c.1.length) s) (fun s => (s : Int)) (fun _ => c) (fun _ => (List.range plan.length).map (stRow c plan)) plan.length (fun s hs kx => ?_) (fun kx => ?_) N (by omega)
  · have T := totC_bd h (show s ≤ plan.length by omega)
    have hrl := (rowOk_out (h.r s hs)).1
    simp only [spec_l7Cost_B2, ilt_eq, len_eq, Int.ofNat_lt, hs, decide_true, cond_true]
    have := spec_l7Cost_L1_run N kx (fun _ => plan) (fun t => rsum (fun s => rsum (cellC c plan s) c.1.length) s + rsum (cellC c plan s) t) (fun _ => (s : Int)) (fun t => (t : Int)) (fun _ => c) (fun _ => (List.range plan.length).map (stRow c plan)) c.1.length (res_ := kx plan (rsum (fun s => rsum (cellC c plan s) c.1.length) (s + 1)) ((s + 1 : Nat) : Int) c ((List.range plan.length).map (stRow c plan))) (fun t ht kx1 => ?_) (fun kx1 => ?_) N (by omega)
    · simp only [rsum, Int.add_zero] at this ⊢; exact this
    · have F := cellF h hs ht
      have R := rowC_bd h hs (show t ≤ c.1.length by omega)
      have f1 := F.m
      have f2 := F.i
      have f3 := F.u
      have e1 : imul .i64 (gd c.2.2 s 0) (stS c plan s (t + 1)) = gd c.2.2 s 0 * stS c plan s (t + 1) := imul_in (by omega) (by omega)
      simp only [spec_l7Cost_B1, ilt_eq, len_eq, Int.ofNat_lt, ht, decide_true, cond_true, hlm, inB_true hs, inB_true (show s < c.2.2.length by omega), inB_true (show s < c.2.1.length by omega), chk_true', Int.toNat_natCast, gdl_map hs, stRow_len, inB_true ht, inB_true (show t < (gd plan s []).length by omega), stRow_gd c plan s ht, e1, iadd_nat (show t < 4611686018427387904 by omega), rsum, cellC, ifpos]
      by_cases hp : 0 < gd (gd plan s []) t 0
      · simp only [hp, decide_true, cond_true, if_true]
        rw [iadd_in (a := (rsum (fun s => rsum (cellC c plan s) c.1.length) s + rsum (cellC c plan s) t)) (b := gd c.2.2 s 0 * stS c plan s (t + 1)) (by omega) (by omega), iadd_in (by omega) (by omega)]
        congr 1; omega
      · simp only [hp, decide_false, cond_false, if_false]
        rw [iadd_in (by omega) (by omega)]
        congr 1; omega
    · simp only [spec_l7Cost_B1, spec_l7Cost_K1, ilt_eq, len_eq, Int.lt_irrefl, decide_false, cond_false, iadd_nat (show s < 4611686018427387904 by omega), rsum]
  · simp only [spec_l7Cost_B2, spec_l7Cost_K2, ilt_eq, len_eq, Int.lt_irrefl, decide_false, cond_false, costCh]
theorem impl_Chain_cost_eq {N : Nat} {c : Ch} {plan : Pl} (hb : chPlanB c plan = true) (h : ChPl c plan) (hs : SmCh c) (hp : SmPl plan) (hN : 4194304 ≤ N) : impl_Chain_cost N c plan = some (costCh c plan, ()) := by
  have hc := h.cs
  have h3 := hc.s3
  have h6 := hc.n
  have hl := h.l
  have hll := hc.l
  have hlm : ((List.range plan.length).map (stRow c plan)).length = plan.length := by simp
  simp only [impl_Chain_cost, impl_Chain_stocks_eq hc hs hp hN, hb, cond_true, Option.bind_some, len_eq]
  refine impl_Chain_cost_L2_run N (fun s => rsum (fun s => rsum (cellC c plan s) c.1.length) s) (fun _ => plan) (fun _ => (plan.length : Int)) (fun s => (s : Int)) (fun _ => c) (fun _ => ((List.range plan.length).map (stRow c plan), true)) plan.length (fun s hs kx => ?_) (fun kx => ?_) N (by omega)
  · have T := totC_bd h (show s ≤ plan.length by omega)
    have hrl := (rowOk_out (h.r s hs)).1
    simp only [impl_Chain_cost_B2, ilt_eq, len_eq, Int.ofNat_lt, hs, decide_true, cond_true, inB_true hs, chk_true', Int.toNat_natCast]
    have := impl_Chain_cost_L1_run N kx (fun t => rsum (fun s => rsum (cellC c plan s) c.1.length) s + rsum (cellC c plan s) t) (fun _ => (s : Int)) (fun _ => plan) (fun _ => (plan.length : Int)) (fun _ => (s : Int)) (fun _ => gd plan s []) (fun _ => ((gd plan s []).length : Int)) (fun t => (t : Int)) (fun _ => c) (fun _ => ((List.range plan.length).map (stRow c plan), true)) c.1.length (res_ := kx (rsum (fun s => rsum (cellC c plan s) c.1.length) (s + 1)) plan plan.length ((s + 1 : Nat) : Int) c ((List.range plan.length).map (stRow c plan), true)) (fun t ht kx1 => ?_) (fun kx1 => ?_) N (by omega)
    · simp only [rsum, Int.add_zero] at this ⊢; exact this
    · have F := cellF h hs ht
      have R := rowC_bd h hs (show t ≤ c.1.length by omega)
      have f1 := F.m
      have f2 := F.i
      have f3 := F.u
      have e1 : imul .i64 (gd c.2.2 s 0) (stS c plan s (t + 1)) = gd c.2.2 s 0 * stS c plan s (t + 1) := imul_in (by omega) (by omega)
      simp only [impl_Chain_cost_B1, impl_Chain_cost_K1, ilt_eq, Int.ofNat_lt, show t < (gd plan s []).length by omega, decide_true, cond_true, hlm, inB_true hs, inB_true (show s < c.2.2.length by omega), inB_true (show s < c.2.1.length by omega), chk_true', Int.toNat_natCast, gdl_map hs, stRow_len, inB_true ht, inB_true (show t < (gd plan s []).length by omega), stRow_gd c plan s ht, e1, iadd_nat (show t < 4611686018427387904 by omega), rsum, cellC, ifpos]
      by_cases hp : 0 < gd (gd plan s []) t 0
      · simp only [hp, decide_true, cond_true, if_true]
        rw [iadd_in (a := (rsum (fun s => rsum (cellC c plan s) c.1.length) s + rsum (cellC c plan s) t)) (b := gd c.2.1 s 0) (by omega) (by omega), iadd_in (by omega) (by omega)]
        congr 1; omega
      · simp only [hp, decide_false, cond_false, if_false]
        rw [iadd_in (by omega) (by omega)]
        congr 1; omega
    · simp only [impl_Chain_cost_B1, impl_Chain_cost_K2, ilt_eq, Int.ofNat_lt, show ¬ c.1.length < (gd plan s []).length by omega, decide_false, cond_false, iadd_nat (show s < 4611686018427387904 by omega), rsum]
  · simp only [impl_Chain_cost_B2, impl_Chain_cost_K3, ilt_eq, Int.lt_irrefl, decide_false, cond_false, costCh]
def chCost (c : Ch) (plan : Pl) : Int × Bool := bif chainB c && chPlanB c plan then (costCh c plan, true) else (0, false)
theorem impl_ChainCost_eq {N : Nat} {c : Ch} {plan : Pl} (hs : SmCh c) (hp : SmPl plan) (hN : 4194304 ≤ N) : impl_ChainCost N c plan = some (chCost c plan, ()) := by
  simp only [impl_ChainCost, impl_linked_eq hs hp hN, Option.bind_some, bif_not, chCost]
  cases hb : chainB c && chPlanB c plan with
  | false => rfl
  | true =>
    have h2 : chPlanB c plan = true := by simp only [Bool.and_eq_true] at hb; exact hb.2
    simp only [cond_true, impl_Chain_cost_eq h2 (chPl hb) hs hp hN, Option.bind_some]
theorem spec_ChainCost_eq {N : Nat} {c : Ch} {plan : Pl} (hs : SmCh c) (hp : SmPl plan) (hN : 4194304 ≤ N) : spec_ChainCost N c plan = some (chCost c plan, ()) := by
  simp only [spec_ChainCost, spec_l7Two_eq hs hp hN, Option.bind_some, bif_not, chCost]
  cases hb : chainB c && chPlanB c plan with
  | false => rfl
  | true => simp only [cond_true, spec_l7Cost_eq (chPl hb) hN, Option.bind_some]
theorem laws_FnExactChainCost_law (c : Ch) (p : Pl) (h : RngCh c) (hp : RngII p) : ∃ N, laws_FnExactChainCost N c p = some (true, ()) := by
  refine ⟨4194304, ?_⟩
  have hn := Nat.le_refl 4194304
  simp only [laws_FnExactChainCost, ilt_eq, ine_eq]
  obtain ⟨r1, e1, q1⟩ := laws_szChain_eq 4194304 h (show (0 : Int) ≤ 1048576 by omega) (by omega)
  rcases q1 with q1 | ⟨q1, q1', hs⟩
  · simp [e1, q1]
  · have n0 : ¬ r1 < 0 := by omega
    obtain ⟨r2, e2, q2⟩ := laws_szIntSS_eq (N := 4194304) hp q1 q1' hn
    rcases q2 with q2 | ⟨q2, q2', hsp⟩
    · simp [e1, e2, q2, n0]
    · have n1 : ¬ r2 < 0 := by omega
      simp [e1, e2, n0, n1, laws_toChain_eq hs hn, laws_toIntSS_eq hsp hn, spec_ChainCost_eq hs hsp hn, impl_ChainCost_eq hs hsp hn, laws_eqChain_refl hs hn, laws_eqIntSS_refl hsp hn]
end Go.Rx.Px
