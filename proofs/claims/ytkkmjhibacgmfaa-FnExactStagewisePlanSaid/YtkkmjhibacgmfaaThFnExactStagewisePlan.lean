/- This text proves, of the plain functions behind FnExactStagewisePlan, that the law answers true (part 1 of 1); no condition beyond the ranges that its arguments have. -/
import Derived.Test.YtkkmjhibacgmfaaPxFnExactStagewisePlan
set_option linter.unusedVariables false
set_option linter.unusedSimpArgs false
namespace Go.Rx
theorem wrap_in {n : Int} (h1 : -9223372036854775808 ≤ n) (h2 : n < 9223372036854775808) : IntKind.i64.wrap n = n := by
  simp [IntKind.wrap, IntKind.bits, IntKind.signed]
  omega
theorem iadd_in {a b : Int} (h1 : -9223372036854775808 ≤ a + b) (h2 : a + b < 9223372036854775808) : iadd .i64 a b = a + b := wrap_in h1 h2
theorem isub_in {a b : Int} (h1 : -9223372036854775808 ≤ a - b) (h2 : a - b < 9223372036854775808) : isub .i64 a b = a - b := wrap_in h1 h2
theorem imul_in {a b : Int} (h1 : -9223372036854775808 ≤ a * b) (h2 : a * b < 9223372036854775808) : imul .i64 a b = a * b := wrap_in h1 h2
theorem iadd_nat {i : Nat} (h : i < 4611686018427387904) : iadd .i64 (i : Int) 1 = ((i + 1 : Nat) : Int) := by rw [iadd_in (by omega) (by omega)]; omega
@[simp] theorem ilt_eq (a b : Int) : ilt a b = decide (a < b) := rfl
@[simp] theorem ile_eq (a b : Int) : ile a b = decide (a ≤ b) := rfl
@[simp] theorem ieq_eq (a b : Int) : ieq a b = decide (a = b) := rfl
@[simp] theorem ine_eq (a b : Int) : ine a b = !decide (a = b) := rfl
@[simp] theorem len_eq {α : Type} (xs : List α) : len xs = (xs.length : Int) := rfl
@[simp] theorem beq_eq (a b : Bool) : Go.Rx.beq a b = (a == b) := rfl
theorem inB_nat (i n : Nat) : inB (i : Int) n = decide (i < n) := by simp [inB]
theorem inB_true {i n : Nat} (h : i < n) : inB (i : Int) n = true := by simp [inB_nat, h]
theorem inB_in {i : Int} {n : Nat} (h0 : 0 ≤ i) (h : i < n) : inB i n = true := by simp [inB, h0, h]
theorem cutB_in {l h : Int} {n : Nat} (h0 : 0 ≤ l) (h1 : l ≤ h) (h2 : h ≤ n) : cutB l h n = true := by simp [cutB, h0, h1, h2]
theorem fitB_in {n b : Nat} (h : n < 4194304) (hb : b ≤ 1024) : fitB n b = true := by
  have : n * b ≤ 4194304 * 1024 := Nat.mul_le_mul (by omega) hb
  simp only [fitB, Bool.and_eq_true, decide_eq_true_eq]; omega
theorem mkB_in {n b : Nat} (h : n < 4194304) (hb : b ≤ 1024) : mkB (n : Int) b = true := by
  have : n * b ≤ 4194304 * 1024 := Nat.mul_le_mul (by omega) hb
  simp only [mkB, Bool.and_eq_true, decide_eq_true_eq, Int.toNat_natCast]; omega
@[simp] theorem chk_true' {α : Type} (x : Option α) : chk true x = x := rfl
@[simp] theorem chk_false {α : Type} (x : Option α) : chk false x = none := rfl
theorem all_cases {α : Type} (p : α → Bool) (d : α) : ∀ (xs : List α), (xs.all p = true ∧ ∀ i, i < xs.length → p (gd xs i d) = true) ∨ (xs.all p = false ∧ ∃ j, j < xs.length ∧ (∀ i, i < j → p (gd xs i d) = true) ∧ p (gd xs j d) = false)
  | [] => .inl ⟨rfl, fun i h => by simp at h⟩
  | a :: xs => by
    cases ha : p a with
    | false => exact .inr ⟨by simp [ha], 0, by simp, fun i h => by omega, by simpa [gd] using ha⟩
    | true =>
      rcases all_cases p d xs with ⟨h, hall⟩ | ⟨h, j, hj, hb, hat⟩
      · refine .inl ⟨by simp [ha] at h ⊢; exact h, fun i hi => ?_⟩
        cases i with
        | zero => simpa [gd] using ha
        | succ i => simpa [gd] using hall i (by simpa using hi)
      · refine .inr ⟨by rw [List.all_cons, ha, h]; rfl, j + 1, by simpa using hj, fun i hi => ?_, by simpa [gd] using hat⟩
        cases i with
        | zero => simpa [gd] using ha
        | succ i => simpa [gd] using hb i (by omega)
theorem first_cases (p : Nat → Bool) : ∀ (n : Nat), (∀ i, i < n → p i = true) ∨ (∃ j, j < n ∧ (∀ i, i < j → p i = true) ∧ p j = false)
  | 0 => .inl fun i h => by omega
  | n + 1 => by
    rcases first_cases p n with h | ⟨j, hj, hb, hat⟩
    · cases hn : p n with
      | true => exact .inl fun i hi => by by_cases e : i = n; exact e ▸ hn; exact h i (by omega)
      | false => exact .inr ⟨n, by omega, h, hn⟩
    · exact .inr ⟨j, by omega, hb, hat⟩
theorem take_succ {α : Type} (xs : List α) (i : Nat) (d : α) (h : i < xs.length) : xs.take (i + 1) = xs.take i ++ [gd xs i d] := by
  rw [List.take_succ_eq_append_getElem h]; simp [gd, List.getD_eq_getElem?_getD, h]
theorem mem_getD {α : Type} {xs : List α} {i : Nat} (d : α) (h : i < xs.length) : gd xs i d ∈ xs := by
  rw [gd, List.getD_eq_getElem?_getD, List.getElem?_eq_getElem h]; simp
theorem drop_eq {α : Type} (xs : List α) (i : Nat) (d : α) (h : i < xs.length) : xs.drop i = gd xs i d :: xs.drop (i + 1) := by
  rw [List.drop_eq_getElem_cons h]; simp [gd, List.getD_eq_getElem?_getD, h]
def inRg (lo hi x : Int) : Bool := decide (lo ≤ x) && decide (x ≤ hi)
def bd (b : Int) (xs : List Int) : Prop := ∀ i, i < xs.length → 0 ≤ gd xs i 0 ∧ gd xs i 0 ≤ b
theorem all_gd {α : Type} {p : α → Bool} {xs : List α} (d : α) (h : xs.all p = true) : ∀ i, i < xs.length → p (gd xs i d) = true := fun _ hi => List.all_eq_true.1 h _ (mem_getD d hi)
theorem bd_of {b : Int} {xs : List Int} (h : xs.all (inRg 0 b) = true) : bd b xs := fun i hi => by
  have := all_gd 0 h i hi
  simpa [inRg] using this
theorem bd_iff {b : Int} {xs : List Int} : xs.all (inRg 0 b) = true ↔ bd b xs := by
  refine ⟨bd_of, fun h => ?_⟩
  rcases all_cases (inRg 0 b) 0 xs with ⟨h1, _⟩ | ⟨_, j, hj, _, hat⟩
  · exact h1
  · have := h j hj
    simp [inRg, this] at hat
def psum (xs : List Int) (i : Nat) : Int := (xs.take i).sum
theorem psum_zero (xs : List Int) : psum xs 0 = 0 := by simp [psum]
theorem psum_succ {xs : List Int} {i : Nat} (h : i < xs.length) : psum xs (i + 1) = psum xs i + gd xs i 0 := by
  unfold psum; rw [take_succ xs i 0 h]; simp
theorem psum_all (xs : List Int) : psum xs xs.length = xs.sum := by simp [psum]
theorem psum_bd {b : Int} {xs : List Int} (h : bd b xs) : ∀ i, i ≤ xs.length → 0 ≤ psum xs i ∧ psum xs i ≤ b * i
  | 0, _ => by simp [psum_zero]
  | i + 1, hi => by
    have h1 := psum_bd h i (by omega)
    have h2 := h i (by omega)
    rw [psum_succ (by omega)]
    have : b * ((i + 1 : Nat) : Int) = b * i + b := by rw [Int.natCast_add, Int.mul_add]; simp
    omega
theorem psum_mono {b : Int} {xs : List Int} (h : bd b xs) {i : Nat} : ∀ {j : Nat}, i ≤ j → j ≤ xs.length → psum xs i ≤ psum xs j
  | 0, hij, _ => by obtain rfl : i = 0 := by omega
                    omega
  | j + 1, hij, hj => by
    by_cases e : i = j + 1
    · rw [e]; omega
    · have := psum_mono h (show i ≤ j by omega) (by omega)
      have h2 := h j (by omega)
      rw [psum_succ (by omega)]; omega
theorem bif_and (a b : Bool) : (bif a then some (b, ()) else some (false, ())) = some (a && b, ()) := by cases a <;> rfl
theorem bif_not {α : Type} (a : Bool) (x y : α) : (bif !a then x else y) = bif a then y else x := by cases a <;> rfl
def RngI (xs : List Int) : Prop := xs.length ≤ maxLen ∧ ∀ i, i < xs.length → (Lit.int .i64 (xs.getD i 0)).wf = true
def RngZ (x : Int) : Prop := (Lit.int .i64 x).wf = true
theorem RngZ.bd {x : Int} (h : RngZ x) : -9223372036854775808 ≤ x ∧ x ≤ 9223372036854775807 := by
  simpa [RngZ, Lit.wf, IntKind.min, IntKind.max, IntKind.signed, IntKind.bits] using h
theorem RngI.bd {xs : List Int} (h : RngI xs) : ∀ i, i < xs.length → -9223372036854775808 ≤ gd xs i 0 ∧ gd xs i 0 ≤ 9223372036854775807 := fun i hi => RngZ.bd (h.2 i hi)
end Go.Rx
namespace Go.Rx.Px
abbrev Cs := List Int × List Int × List Int × List Int
theorem impl_within_eq (N : Nat) (x lo hi : Int) : impl_within N x lo hi = some (inRg lo hi x, ()) := by
  simp only [impl_within, ile_eq, inRg]; by_cases h : lo ≤ x <;> simp [h]
theorem spec_l1In_eq (N : Nat) (x lo hi : Int) : spec_l1In N x lo hi = some (inRg lo hi x, ()) := by
  simp only [spec_l1In, ile_eq, inRg]; by_cases h : lo ≤ x <;> simp [h]
theorem impl_allWithin_eq {N : Nat} {xs : List Int} {lo hi : Int} (hl : xs.length < 4194304) (hN : 4194304 ≤ N) : impl_allWithin N xs lo hi = some (xs.all (inRg lo hi), ()) := by
  unfold impl_allWithin
  rcases all_cases (inRg lo hi) 0 xs with ⟨h, hall⟩ | ⟨h, j, hj, hbef, hat⟩
  · refine impl_allWithin_L1_run N (fun _ => lo) (fun _ => hi) (fun _ => xs) (fun _ => xs.length) (fun i => i) xs.length (fun i hi kx => ?_) (fun kx => ?_) N (by omega)
    · simp [impl_allWithin_B1, hi, inB_true hi, impl_within_eq, hall i hi, iadd_nat (show i < 4611686018427387904 by omega)]
    · simp [impl_allWithin_B1, impl_allWithin_K1, h]
  · refine impl_allWithin_L1_run N (fun _ => lo) (fun _ => hi) (fun _ => xs) (fun _ => xs.length) (fun i => i) j (fun i hi kx => ?_) (fun kx => ?_) N (by omega)
    · simp [impl_allWithin_B1, show i < xs.length by omega, inB_true (show i < xs.length by omega), impl_within_eq, hbef i hi, iadd_nat (show i < 4611686018427387904 by omega)]
    · simp [impl_allWithin_B1, hj, inB_true hj, impl_within_eq, hat, h]
theorem spec_l2Row_eq {N : Nat} {xs : List Int} {n hi : Int} (hl : xs.length < 4194304) (hN : 4194304 ≤ N) : spec_l2Row N xs n hi = some (xs.all (inRg 0 hi) && decide ((xs.length : Int) = n), ()) := by
  unfold spec_l2Row
  rcases all_cases (inRg 0 hi) 0 xs with ⟨h, hall⟩ | ⟨h, j, hj, hbef, hat⟩
  · refine spec_l2Row_L1_run N (fun _ => xs) (fun _ => n) (fun _ => hi) (fun i => i) xs.length (fun i hi kx => ?_) (fun kx => ?_) N (by omega)
    · simp [spec_l2Row_B1, hi, inB_true hi, spec_l1In_eq, hall i hi, iadd_nat (show i < 4611686018427387904 by omega)]
    · simp [spec_l2Row_B1, spec_l2Row_K1, h]
  · refine spec_l2Row_L1_run N (fun _ => xs) (fun _ => n) (fun _ => hi) (fun i => i) j (fun i hi kx => ?_) (fun kx => ?_) N (by omega)
    · simp [spec_l2Row_B1, show i < xs.length by omega, inB_true (show i < xs.length by omega), spec_l1In_eq, hbef i hi, iadd_nat (show i < 4611686018427387904 by omega)]
    · simp [spec_l2Row_B1, hj, inB_true hj, spec_l1In_eq, hat, h]
def caseB (c : Cs) : Bool := decide (c.1.length ≤ 8) && (decide (c.2.1.length = c.1.length) && (decide (c.2.2.1.length = c.1.length) && (decide (c.2.2.2.length = c.1.length) && (c.1.all (inRg 0 20) && (c.2.1.all (inRg 0 99) && (c.2.2.1.all (inRg 0 9) && c.2.2.2.all (inRg 0 9)))))))
structure CaseP (c : Cs) : Prop where
  n : c.1.length ≤ 8
  l1 : c.2.1.length = c.1.length
  l2 : c.2.2.1.length = c.1.length
  l3 : c.2.2.2.length = c.1.length
  b0 : bd 20 c.1
  b1 : bd 99 c.2.1
  b2 : bd 9 c.2.2.1
  b3 : bd 9 c.2.2.2
theorem caseB_iff {c : Cs} : caseB c = true ↔ CaseP c := by
  simp only [caseB, Bool.and_eq_true, decide_eq_true_eq, bd_iff]
  exact ⟨fun ⟨a, b, c, d, e, f, g, h⟩ => ⟨a, b, c, d, e, f, g, h⟩, fun ⟨a, b, c, d, e, f, g, h⟩ => ⟨a, b, c, d, e, f, g, h⟩⟩
structure SmC (c : Cs) : Prop where
  s0 : c.1.length < 4194304
  s1 : c.2.1.length < 4194304
  s2 : c.2.2.1.length < 4194304
  s3 : c.2.2.2.length < 4194304
theorem CaseP.sm {c : Cs} (h : CaseP c) : SmC c := ⟨by have := h.n; omega, by have := h.n; have := h.l1; omega, by have := h.n; have := h.l2; omega, by have := h.n; have := h.l3; omega⟩
theorem spec_l2Good_eq {N : Nat} {c : Cs} (hc : SmC c) (hN : 4194304 ≤ N) : spec_l2Good N c = some (caseB c, ()) := by
  have e0 : ile (c.1.length : Int) 8 = decide (c.1.length ≤ 8) := by simp only [ile_eq, decide_eq_decide]; omega
  simp only [spec_l2Good, len_eq, spec_l2Row_eq hc.s0 hN, spec_l2Row_eq hc.s1 hN, spec_l2Row_eq hc.s2 hN, spec_l2Row_eq hc.s3 hN, caseB, e0, Option.bind_some, bif_and]
  congr 2
  rw [Bool.eq_iff_iff]
  simp only [Bool.and_eq_true, decide_eq_true_eq]
  constructor
  · rintro ⟨h1, ⟨h2, h3⟩, ⟨h4, h5⟩, ⟨h6, h7⟩, h8, h9⟩; exact ⟨h1, by omega, by omega, by omega, h2, h4, h6, h8⟩
  · rintro ⟨h1, h2, h3, h4, h5, h6, h7, h8⟩; exact ⟨h1, ⟨h5, trivial⟩, ⟨h6, by omega⟩, ⟨h7, by omega⟩, h8, by omega⟩
def stockAt (plan need : List Int) (t : Nat) : Int := psum plan t - psum need t
theorem laws_toIntS_eq {N : Nat} {a : List Int} (hl : a.length < 4194304) (hN : 4194304 ≤ N) : laws_toIntS N a = some (a, ()) := by
  simp only [laws_toIntS, len_eq, chk_of (mkB_in hl (show 8 ≤ 1024 by omega)), Int.toNat_natCast]
  refine laws_toIntS_L1_run N (fun _ => a) (fun i => i) (fun i => a.take i ++ List.replicate (a.length - i) 0) a.length (fun i hi kx => ?_) (fun kx => ?_) N (by omega)
  · simp only [laws_toIntS_B1, ilt_eq, len_eq, Int.ofNat_lt, hi, decide_true, cond_true, inB_true hi, chk_true', Int.toNat_natCast, iadd_nat (show i < 4611686018427387904 by omega)]
    rw [chk_of (inB_true (by simp; omega))]
    congr 1
    rw [take_succ a i 0 hi, List.set_append, if_neg (by simp; omega), List.append_assoc]
    congr 1
    rw [show a.length - i = (a.length - (i + 1)) + 1 by omega, List.replicate_succ]
    simp [Nat.min_eq_left (Nat.le_of_lt hi)]
  · simp [laws_toIntS_B1, laws_toIntS_K1]
theorem laws_eqIntS_eq {N : Nat} {a b : List Int} (hl : a.length < 4194304) (hN : 4194304 ≤ N) : laws_eqIntS N a b = some (decide (a = b), ()) := by
  by_cases hn : a.length = b.length
  · simp only [laws_eqIntS, ine_eq, len_eq, hn, decide_true, bif_not, cond_true]
    rcases first_cases (fun i => decide (gd a i 0 = gd b i 0)) a.length with h | ⟨j, hj, hb, hat⟩
    · have he : a = b := by
        refine List.ext_getElem hn fun i h1 h2 => ?_
        have := h i h1
        simpa [gd, h1, h2] using this
      refine laws_eqIntS_L1_run N (fun _ => a) (fun _ => b) (fun i => i) a.length (fun i hi kx => ?_) (fun kx => ?_) N (by omega)
      · have h3 : gd a i 0 = gd b i 0 := by simpa using h i hi
        simp [laws_eqIntS_B1, hi, inB_true hi, inB_true (show i < b.length by omega), h3, iadd_nat (show i < 4611686018427387904 by omega)]
      · simp [laws_eqIntS_B1, laws_eqIntS_K1, he]
    · have hat' : gd a j 0 ≠ gd b j 0 := by simpa using hat
      have he : a ≠ b := fun e => hat' (by rw [e])
      refine laws_eqIntS_L1_run N (fun _ => a) (fun _ => b) (fun i => i) j (fun i hi kx => ?_) (fun kx => ?_) N (by omega)
      · have h3 : gd a i 0 = gd b i 0 := by simpa using hb i hi
        simp [laws_eqIntS_B1, show i < a.length by omega, inB_true (show i < a.length by omega), inB_true (show i < b.length by omega), h3, iadd_nat (show i < 4611686018427387904 by omega)]
      · simp [laws_eqIntS_B1, hj, inB_true hj, inB_true (show j < b.length by omega), hat', he]
  · have he : a ≠ b := fun e => hn (by rw [e])
    have : decide ((a.length : Int) = b.length) = false := by simp; omega
    simp [laws_eqIntS, this, he]
theorem laws_szIntS_eq (N : Nat) {a : List Int} {left : Int} (h : a.length ≤ maxLen) (h1 : 0 ≤ left) (h2 : left ≤ 1048576) : ∃ r, laws_szIntS N a left = some (r, ()) ∧ (r < 0 ∨ 0 ≤ r ∧ r ≤ left ∧ (a.length : Int) ≤ left) := by
  unfold maxLen at h
  simp only [laws_szIntS, len_eq, ilt_eq, isub_in (show -9223372036854775808 ≤ left - a.length by omega) (by omega)]
  by_cases h3 : left - a.length < 0
  · exact ⟨-1, by simp [h3], .inl (by omega)⟩
  · exact ⟨left - a.length, by simp [h3], .inr (by omega)⟩
end Go.Rx.Px
namespace Go.Rx
def rsum (f : Nat → Int) : Nat → Int
  | 0 => 0
  | n + 1 => rsum f n + f n
theorem rsum_bd {f : Nat → Int} {lo hi : Int} : ∀ {n : Nat}, (∀ i, i < n → lo ≤ f i ∧ f i ≤ hi) → lo * n ≤ rsum f n ∧ rsum f n ≤ hi * n
  | 0, _ => by simp [rsum]
  | n + 1, h => by
    have h1 := rsum_bd (n := n) (fun i hi => h i (by omega))
    have h2 := h n (by omega)
    have e : ∀ x : Int, x * ((n + 1 : Nat) : Int) = x * n + x := fun x => by rw [Int.natCast_add, Int.mul_add]; simp
    simp only [rsum, e]; omega
theorem mul_bd {a b A B : Int} (ha : 0 ≤ a ∧ a ≤ A) (hb : -B ≤ b ∧ b ≤ B) : -(A * B) ≤ a * b ∧ a * b ≤ A * B := by
  have hB : 0 ≤ B := by omega
  have h1 : a * b ≤ a * B := Int.mul_le_mul_of_nonneg_left hb.2 ha.1
  have h2 : a * (-B) ≤ a * b := Int.mul_le_mul_of_nonneg_left hb.1 ha.1
  have h3 : a * B ≤ A * B := Int.mul_le_mul_of_nonneg_right ha.2 hB
  rw [Int.mul_neg] at h2
  omega
theorem gd_map_range {α : Type} (f : Nat → α) (d : α) {n i : Nat} (h : i < n) : gd ((List.range n).map f) i d = f i := by
  simp [gd, List.getD_eq_getElem?_getD, h]
theorem map_range_succ {α : Type} (f : Nat → α) (n : Nat) : (List.range (n + 1)).map f = (List.range n).map f ++ [f n] := by simp [List.range_succ]
theorem rangeB {p : Nat → Bool} {n : Nat} : (List.range n).all p = true ↔ ∀ i, i < n → p i = true := by simp
end Go.Rx
namespace Go.Rx.Px
def ifpos (p s : Int) : Int := if 0 < p then s else 0
theorem ifpos_bd {p s b : Int} (h : 0 ≤ s ∧ s ≤ b) : 0 ≤ ifpos p s ∧ ifpos p s ≤ b := by unfold ifpos; split <;> omega
structure CellBd (c : Cs) (plan : List Int) (t : Nat) : Prop where
  s : 0 ≤ gd c.2.1 t 0 ∧ gd c.2.1 t 0 ≤ 99
  u : 0 ≤ gd c.2.2.1 t 0 ∧ gd c.2.2.1 t 0 ≤ 9
  h : 0 ≤ gd c.2.2.2 t 0 ∧ gd c.2.2.2 t 0 ≤ 9
  p : 0 ≤ gd plan t 0 ∧ gd plan t 0 ≤ 200
  up : 0 ≤ gd c.2.2.1 t 0 * gd plan t 0 ∧ gd c.2.2.1 t 0 * gd plan t 0 ≤ 1800
theorem cellBd {c : Cs} {plan : List Int} (h : CaseP c) (hp : bd 200 plan) {t : Nat} (ht : t < c.1.length) (hl : t < plan.length) : CellBd c plan t := by
  have h1 := h.b1 t (by have := h.l1; omega)
  have h2 := h.b2 t (by have := h.l2; omega)
  have h3 := h.b3 t (by have := h.l3; omega)
  have h4 := hp t hl
  refine ⟨h1, h2, h3, h4, Int.mul_nonneg h2.1 h4.1, ?_⟩
  have := (mul_bd (A := 9) (B := 200) h2 (show -200 ≤ gd plan t 0 ∧ gd plan t 0 ≤ 200 by omega)).2
  omega
structure PlanP (c : Cs) (plan : List Int) : Prop where
  cs : CaseP c
  n : plan.length = c.1.length
  b : bd 160 plan
theorem PlanP.b200 {c : Cs} {plan : List Int} (h : PlanP c plan) : bd 200 plan := fun i hi => by have := h.b i hi; omega
theorem PlanP.st {c : Cs} {plan : List Int} (h : PlanP c plan) {t : Nat} (ht : t ≤ plan.length) : -1600 ≤ stockAt plan c.1 t ∧ stockAt plan c.1 t ≤ 1600 := by
  have h1 := psum_bd h.b200 t ht
  have h2 := psum_bd h.cs.b0 t (by have := h.n; omega)
  have h3 := h.cs.n
  have h4 := h.n
  simp only [stockAt]; omega
def stocksL (plan need : List Int) (n : Nat) : List Int := (List.range n).map fun i => stockAt plan need (i + 1)
theorem stocksL_len (plan need : List Int) (n : Nat) : (stocksL plan need n).length = n := by simp [stocksL]
theorem stocksL_gd (plan need : List Int) {n i : Nat} (h : i < n) : gd (stocksL plan need n) i 0 = stockAt plan need (i + 1) := gd_map_range _ _ h
theorem stocksL_succ (plan need : List Int) (n : Nat) : stocksL plan need (n + 1) = stocksL plan need n ++ [stockAt plan need (n + 1)] := map_range_succ _ _
theorem stockAt_succ {plan need : List Int} {i : Nat} (h : i < plan.length) (h2 : i < need.length) : stockAt plan need (i + 1) = stockAt plan need i + (gd plan i 0 - gd need i 0) := by
  simp only [stockAt, psum_succ h, psum_succ h2]; omega
theorem len_dec (a b : List Int) : decide ((a.length : Int) = b.length) = decide (a.length = b.length) := by rw [decide_eq_decide]; omega
theorem spec_l2Stocks_eq {N : Nat} {c : Cs} {plan : List Int} (hp : PlanP c plan) (hN : 4194304 ≤ N) : spec_l2Stocks N c plan = some (stocksL plan c.1 plan.length, ()) := by
  have h8 := hp.cs.n
  have hl := hp.n
  refine spec_l2Stocks_L1_run N (fun _ => plan) (stockAt plan c.1) (fun i => i) (fun _ => c) (stocksL plan c.1) plan.length (fun i hi kx => ?_) (fun kx => ?_) N (by omega)
  · have hb := hp.b i hi
    have hd := hp.cs.b0 i (by omega)
    have h1 := hp.st (t := i) (by omega)
    simp only [spec_l2Stocks_B1, ilt_eq, len_eq, Int.ofNat_lt, hi, decide_true, cond_true, inB_true hi, inB_true (show i < c.1.length by omega), chk_true', Int.toNat_natCast, iadd_nat (show i < 4611686018427387904 by omega)]
    rw [iadd_in (by omega) (by omega), isub_in (by omega) (by omega), chk_of (fitB_in (by rw [stocksL_len]; omega) (by omega)), stocksL_succ, stockAt_succ hi (show i < c.1.length by omega), Int.add_sub_assoc]
  · simp only [spec_l2Stocks_B1, spec_l2Stocks_K1, ilt_eq, len_eq, Int.lt_irrefl, decide_false, cond_false]
def fSet (c : Cs) (plan : List Int) (t : Nat) : Int := ifpos (gd plan t 0) (gd c.2.1 t 0)
def fUnit (c : Cs) (plan : List Int) (t : Nat) : Int := gd c.2.2.1 t 0 * gd plan t 0
def fHold (c : Cs) (plan : List Int) (t : Nat) : Int := gd c.2.2.2 t 0 * stockAt plan c.1 (t + 1)
theorem fSet_bd {c : Cs} {plan : List Int} (h : PlanP c plan) : ∀ i, i ≤ plan.length → -20000 * i ≤ rsum (fSet c plan) i ∧ rsum (fSet c plan) i ≤ 20000 * i := fun i hi => rsum_bd fun k hk => by
  have hn := h.n
  have := ifpos_bd (p := gd plan k 0) (cellBd h.cs h.b200 (show k < c.1.length by omega) (by omega)).s
  simp only [fSet]; omega
theorem fUnit_bd {c : Cs} {plan : List Int} (h : PlanP c plan) : ∀ i, i ≤ plan.length → -20000 * i ≤ rsum (fUnit c plan) i ∧ rsum (fUnit c plan) i ≤ 20000 * i := fun i hi => rsum_bd fun k hk => by
  have hn := h.n
  have := (cellBd h.cs h.b200 (show k < c.1.length by omega) (by omega)).up
  simp only [fUnit]; omega
theorem fHold_bd1 {c : Cs} {plan : List Int} (h : PlanP c plan) {k : Nat} (hk : k < plan.length) : -20000 ≤ fHold c plan k ∧ fHold c plan k ≤ 20000 := by
  have hn := h.n
  have := mul_bd (cellBd h.cs h.b200 (show k < c.1.length by omega) hk).h (h.st (show k + 1 ≤ plan.length by omega))
  simp only [fHold]; omega
theorem fHold_bd {c : Cs} {plan : List Int} (h : PlanP c plan) : ∀ i, i ≤ plan.length → -20000 * i ≤ rsum (fHold c plan) i ∧ rsum (fHold c plan) i ≤ 20000 * i := fun i hi => rsum_bd fun k hk => fHold_bd1 h (by omega)
theorem impl_Case_parts_eq {N : Nat} {c : Cs} {plan : List Int} (h : PlanP c plan) (hN : 4194304 ≤ N) : impl_Case_parts N c plan = some ((rsum (fSet c plan) plan.length, rsum (fUnit c plan) plan.length, rsum (fHold c plan) plan.length), ()) := by
  have h8 := h.cs.n
  have hl := h.n
  refine impl_Case_parts_L1_run N (rsum (fSet c plan)) (rsum (fUnit c plan)) (rsum (fHold c plan)) (stockAt plan c.1) (fun _ => plan) (fun _ => plan.length) (fun i => i) (fun _ => c) plan.length (fun i hi kx => ?_) (fun kx => ?_) N (by omega)
  · have hc := cellBd h.cs h.b200 (show i < c.1.length by omega) hi
    have hup := hc.up
    have hsu := hc.s
    have hpp := hc.p
    have hd := h.cs.b0 i (by omega)
    have h1 := h.st (t := i) (by omega)
    have h2 := fHold_bd1 h hi
    have b1 := fSet_bd h i (by omega)
    have b2 := fUnit_bd h i (by omega)
    have b3 := fHold_bd h i (by omega)
    have hP := h.cs.l1
    have hQ := h.cs.l2
    have hR := h.cs.l3
    simp only [impl_Case_parts_B1, impl_Case_parts_K1, ilt_eq, Int.ofNat_lt, hi, decide_true, cond_true, inB_true hi, inB_true (show i < c.1.length by omega), inB_true (show i < c.2.1.length by omega), inB_true (show i < c.2.2.1.length by omega), inB_true (show i < c.2.2.2.length by omega), chk_true', Int.toNat_natCast, iadd_nat (show i < 4611686018427387904 by omega)]
    rw [isub_in (by omega) (by omega), iadd_in (a := stockAt plan c.1 i) (by omega) (by omega), ← stockAt_succ hi (show i < c.1.length by omega), imul_in (a := gd c.2.2.1 i 0) (by omega) (by omega), imul_in (a := gd c.2.2.2 i 0) (by simp only [fHold] at h2; omega) (by simp only [fHold] at h2; omega)]
    have e2 : gd c.2.2.1 i 0 * gd plan i 0 = fUnit c plan i := rfl
    have e3 : gd c.2.2.2 i 0 * stockAt plan c.1 (i + 1) = fHold c plan i := rfl
    rw [e2] at hup
    simp only [e2, e3]
    rw [iadd_in (a := rsum (fUnit c plan) i) (by omega) (by omega), iadd_in (a := rsum (fHold c plan) i) (by omega) (by omega)]
    by_cases hp : 0 < gd plan i 0
    · simp only [hp, decide_true, cond_true, rsum, fSet, ifpos, if_true] at *
      rw [iadd_in (by omega) (by omega)]
    · simp only [hp, decide_false, cond_false, rsum, fSet, ifpos, if_false, Int.add_zero]
  · simp only [impl_Case_parts_B1, impl_Case_parts_K2, ilt_eq, Int.lt_irrefl, decide_false, cond_false]
def costOf (c : Cs) (plan : List Int) : Int := rsum (fSet c plan) plan.length + rsum (fUnit c plan) plan.length + rsum (fHold c plan) plan.length
theorem impl_Case_cost_eq {N : Nat} {c : Cs} {plan : List Int} (h : PlanP c plan) (hN : 4194304 ≤ N) : impl_Case_cost N c plan = some (costOf c plan, ()) := by
  have b1 := fSet_bd h _ (Nat.le_refl _)
  have b2 := fUnit_bd h _ (Nat.le_refl _)
  have b3 := fHold_bd h _ (Nat.le_refl _)
  have h8 := h.cs.n
  have hl := h.n
  simp only [impl_Case_cost, impl_Case_parts_eq h hN, Option.bind_some, costOf]
  rw [iadd_in (a := rsum (fSet c plan) plan.length) (by omega) (by omega), iadd_in (by omega) (by omega)]
theorem spec_l2Parts_eq {N : Nat} {c : Cs} {plan : List Int} (h : PlanP c plan) (hN : 4194304 ≤ N) : spec_l2Parts N c plan = some ([rsum (fSet c plan) plan.length, rsum (fUnit c plan) plan.length, rsum (fHold c plan) plan.length], ()) := by
  have h8 := h.cs.n
  have hl := h.n
  have hlen := stocksL_len plan c.1 plan.length
  simp only [spec_l2Parts, spec_l2Stocks_eq h hN, Option.bind_some]
  refine spec_l2Parts_L1_run N (fun _ => plan) (fun i => i) (fun _ => c) (fun _ => List.replicate 3 0) (fun i => [rsum (fSet c plan) i, rsum (fUnit c plan) i, rsum (fHold c plan) i]) (fun _ => stocksL plan c.1 plan.length) plan.length (fun i hi kx => ?_) (fun kx => ?_) N (by omega)
  · have hc := cellBd h.cs h.b200 (show i < c.1.length by omega) hi
    have hup := hc.up
    have hsu := hc.s
    have h2 := fHold_bd1 h hi
    have b1 := fSet_bd h i (by omega)
    have b2 := fUnit_bd h i (by omega)
    have b3 := fHold_bd h i (by omega)
    have hP := h.cs.l1
    have hQ := h.cs.l2
    have hR := h.cs.l3
    have i0 : inB 0 3 = true := rfl
    have i1 : inB 1 3 = true := rfl
    have i2 : inB 2 3 = true := rfl
    have g0 : ∀ a b c : Int, gd [a, b, c] 0 0 = a := fun _ _ _ => rfl
    have g1 : ∀ a b c : Int, gd [a, b, c] 1 0 = b := fun _ _ _ => rfl
    have g2 : ∀ a b c : Int, gd [a, b, c] 2 0 = c := fun _ _ _ => rfl
    have s0 : ∀ a b c v : Int, List.set [a, b, c] 0 v = [v, b, c] := fun _ _ _ _ => rfl
    have s1 : ∀ a b c v : Int, List.set [a, b, c] 1 v = [a, v, c] := fun _ _ _ _ => rfl
    have s2 : ∀ a b c v : Int, List.set [a, b, c] 2 v = [a, b, v] := fun _ _ _ _ => rfl
    simp only [spec_l2Parts_B1, spec_l2Parts_K1, ilt_eq, len_eq, Int.ofNat_lt, hi, decide_true, cond_true, inB_true hi, inB_true (show i < c.2.1.length by omega), inB_true (show i < c.2.2.1.length by omega), inB_true (show i < c.2.2.2.length by omega), hlen, chk_true', Int.toNat_natCast, iadd_nat (show i < 4611686018427387904 by omega), i0, i1, i2, g0, g1, g2, s0, s1, s2, stocksL_gd _ _ hi]
    rw [imul_in (a := gd c.2.2.1 i 0) (by omega) (by omega), imul_in (a := gd c.2.2.2 i 0) (by simp only [fHold] at h2; omega) (by simp only [fHold] at h2; omega)]
    have e2 : gd c.2.2.1 i 0 * gd plan i 0 = fUnit c plan i := rfl
    have e3 : gd c.2.2.2 i 0 * stockAt plan c.1 (i + 1) = fHold c plan i := rfl
    rw [e2] at hup
    simp only [e2, e3]
    rw [iadd_in (a := rsum (fUnit c plan) i) (by omega) (by omega), iadd_in (a := rsum (fHold c plan) i) (by omega) (by omega)]
    by_cases hp : 0 < gd plan i 0
    · simp only [hp, decide_true, cond_true, rsum, fSet, ifpos, if_true] at *
      rw [iadd_in (by omega) (by omega)]
    · simp only [hp, decide_false, cond_false, rsum, fSet, ifpos, if_false, Int.add_zero]
  · simp only [spec_l2Parts_B1, spec_l2Parts_K2, ilt_eq, len_eq, Int.lt_irrefl, decide_false, cond_false]
theorem spec_l2Cost_eq {N : Nat} {c : Cs} {plan : List Int} (h : PlanP c plan) (hN : 4194304 ≤ N) : spec_l2Cost N c plan = some (costOf c plan, ()) := by
  have b1 := fSet_bd h _ (Nat.le_refl _)
  have b2 := fUnit_bd h _ (Nat.le_refl _)
  have b3 := fHold_bd h _ (Nat.le_refl _)
  have h8 := h.cs.n
  have hl := h.n
  have i0 : inB 0 3 = true := rfl
  have i1 : inB 1 3 = true := rfl
  have i2 : inB 2 3 = true := rfl
  have g0 : ∀ a b c : Int, gd [a, b, c] 0 0 = a := fun _ _ _ => rfl
  have g1 : ∀ a b c : Int, gd [a, b, c] 1 0 = b := fun _ _ _ => rfl
  have g2 : ∀ a b c : Int, gd [a, b, c] 2 0 = c := fun _ _ _ => rfl
  simp only [spec_l2Cost, spec_l2Parts_eq h hN, Option.bind_some, costOf, i0, i1, i2, chk_true', g0, g1, g2]
  rw [iadd_in (a := rsum (fSet c plan) plan.length) (by omega) (by omega), iadd_in (by omega) (by omega)]
end Go.Rx.Px
namespace Go.Rx
theorem range_filter_succ (p : Nat → Bool) (i : Nat) : (List.range (i + 1)).filter p = (List.range i).filter p ++ (if p i then [i] else []) := by
  rw [List.range_succ, List.filter_append]; congr 1; simp [List.filter_cons]
theorem sum_cut {xs : List Int} {i t : Nat} (h : i ≤ t) : (cut xs i t).sum = psum xs t - psum xs i := by
  simp only [cut, Int.toNat_natCast, psum]
  have e : (xs.take t).sum = ((xs.take t).take i).sum + ((xs.take t).drop i).sum := by rw [← List.sum_append, List.take_append_drop]
  rw [List.take_take, Nat.min_eq_left h] at e
  omega
theorem cut_len {α : Type} (xs : List α) {i t : Nat} (h : t ≤ xs.length) : (cut xs i t).length = t - i := by simp [cut]; omega
theorem cut_gd {α : Type} (xs : List α) {i t k : Nat} (d : α) (h : i + k < t) : gd (cut xs i t) k d = gd xs (i + k) d := by
  simp [cut, gd, List.getD_eq_getElem?_getD, List.getElem?_drop, h]
theorem bd_cut {b : Int} {xs : List Int} (h : bd b xs) {i t : Nat} (ht : t ≤ xs.length) : bd b (cut xs i t) := fun k hk => by
  rw [cut_len xs ht] at hk
  rw [cut_gd xs 0 (by omega)]; exact h _ (by omega)
end Go.Rx
namespace Go.Rx.Px
theorem spec_l2Sum_eq {N : Nat} {xs : List Int} {b : Int} (hb : bd b xs) (hb1 : b ≤ 1000000) (hl : xs.length < 4194304) (hN : 4194304 ≤ N) : spec_l2Sum N xs = some (xs.sum, ()) := by
  have hp : ∀ i, i ≤ xs.length → 0 ≤ psum xs i ∧ psum xs i ≤ 1000000 * i := psum_bd (fun i hi => ⟨(hb i hi).1, by have := (hb i hi).2; omega⟩)
  refine spec_l2Sum_L1_run N (fun _ => xs) (psum xs) (fun i => i) xs.length (fun i hi kx => ?_) (fun kx => ?_) N (by omega)
  · have h1 := hp i (by omega)
    have h2 := hb i hi
    simp [spec_l2Sum_B1, hi, inB_true hi, iadd_nat (show i < 4611686018427387904 by omega), iadd_in (show -9223372036854775808 ≤ psum xs i + gd xs i 0 by omega) (by omega), psum_succ hi]
  · simp [spec_l2Sum_B1, spec_l2Sum_K1, psum_all]
def mkL (n : Nat) (k : Int) : List Int := (List.range n).map fun (i : Nat) => k + (i : Int)
theorem mkL_len (n : Nat) (k : Int) : (mkL n k).length = n := by simp [mkL]
theorem mkL_succ (n : Nat) (k : Int) : mkL (n + 1) k = mkL n k ++ [k + (n : Int)] := map_range_succ _ _
theorem mkL_gd {n i : Nat} (k : Int) (h : i < n) : gd (mkL n k) i 0 = k + i := gd_map_range _ _ h
theorem laws_markIntS_eq {N : Nat} {a : List Int} {k : Int} (hl : a.length < 4194304) (h0 : 0 ≤ k) (h1 : k ≤ 1000000000000) (hN : 4194304 ≤ N) : laws_markIntS N a k = some (k + a.length, mkL a.length k) := by
  have := laws_markIntS_L1_run N (fun i => k + (i : Int)) (fun i => (i : Int)) (fun i => mkL i k ++ a.drop i) a.length (res_ := some (k + a.length, mkL a.length k)) (fun i hi kx => ?_) (fun kx => ?_) N (by omega)
  · simpa [laws_markIntS, mkL] using this
  · have hlen : (mkL i k ++ a.drop i).length = a.length := by rw [List.length_append, mkL_len, List.length_drop]; omega
    simp only [laws_markIntS_B1, ilt_eq, len_eq, hlen, Int.ofNat_lt, hi, decide_true, cond_true, inB_true hi, chk_true', Int.toNat_natCast, iadd_nat (show i < 4611686018427387904 by omega)]
    rw [iadd_in (by omega) (by omega), List.set_append, if_neg (by rw [mkL_len]; omega), mkL_len, Nat.sub_self, drop_eq a i 0 hi, List.set_cons_zero, mkL_succ, List.append_assoc, Int.add_assoc]
    rfl
  · simp only [laws_markIntS_B1, laws_markIntS_K1, ilt_eq, len_eq, List.drop_length, List.append_nil, mkL_len, Int.lt_irrefl, decide_false, cond_false]
theorem laws_heldIntS_eq {N n : Nat} {k : Int} (hl : n < 4194304) (h0 : 0 ≤ k) (h1 : k ≤ 1000000000000) (hN : 4194304 ≤ N) : laws_heldIntS N (mkL n k) k = some (k + n, ()) := by
  have := laws_heldIntS_L1_run N (fun _ => mkL n k) (fun i => k + (i : Int)) (fun i => (i : Int)) n (res_ := some (k + n, ())) (fun i hi kx => ?_) (fun kx => ?_) N (by omega)
  · simpa [laws_heldIntS] using this
  · simp only [laws_heldIntS_B1, ilt_eq, len_eq, mkL_len, Int.ofNat_lt, hi, decide_true, cond_true, inB_true hi, chk_true', Int.toNat_natCast, mkL_gd k hi, ine_eq, Bool.not_true, cond_false, iadd_nat (show i < 4611686018427387904 by omega)]
    rw [iadd_in (by omega) (by omega), Int.add_assoc]; rfl
  · simp only [laws_heldIntS_B1, laws_heldIntS_K1, ilt_eq, len_eq, mkL_len, Int.lt_irrefl, decide_false, cond_false]
theorem markIntS_run {N : Nat} {a : List Int} {k : Int} (hl : a.length < 4194304) (h0 : 0 ≤ k) (h1 : k ≤ 1000000000000) (hN : 4194304 ≤ N) : ∃ r a', laws_markIntS N a k = some (r, a') ∧ k ≤ r ∧ r ≤ k + 4194304 :=
  ⟨_, _, laws_markIntS_eq hl h0 h1 hN, by omega, by omega⟩
theorem impl_copied_eq {N : Nat} {xs : List Int} (h : xs.length < 4194303) : impl_copied N xs = some (xs, ()) := by
  simp only [impl_copied, chk_of (fitB_in (n := 0 + xs.length) (b := 8) (by omega) (by omega))]
end Go.Rx.Px
namespace Go.Rx
def pns (S : Nat → Bool) (n : Nat) : List Int := ((List.range n).filter S).map fun (k : Nat) => (k : Int)
def cnt (S : Nat → Bool) (n : Nat) : Nat := (pns S n).length
theorem pns_succ (S : Nat → Bool) (n : Nat) : pns S (n + 1) = pns S n ++ (if S n then [(n : Int)] else []) := by
  simp only [pns, range_filter_succ, List.map_append]; congr 1; split <;> rfl
theorem cnt_zero (S : Nat → Bool) : cnt S 0 = 0 := rfl
theorem cnt_succ (S : Nat → Bool) (n : Nat) : cnt S (n + 1) = cnt S n + (if S n then 1 else 0) := by
  simp only [cnt, pns_succ, List.length_append]; split <;> rfl
theorem cnt_le (S : Nat → Bool) : ∀ n, cnt S n ≤ n
  | 0 => Nat.le_refl _
  | n + 1 => by have := cnt_le S n; rw [cnt_succ]; split <;> omega
theorem cnt_mono (S : Nat → Bool) {a : Nat} : ∀ {b : Nat}, a ≤ b → cnt S a ≤ cnt S b
  | 0, h => by obtain rfl : a = 0 := by omega
               exact Nat.le_refl _
  | b + 1, h => by
    by_cases e : a = b + 1
    · rw [e]; exact Nat.le_refl _
    · have := cnt_mono S (show a ≤ b by omega); rw [cnt_succ]; split <;> omega
theorem cnt_lt {S : Nat → Bool} {a b : Nat} (hS : S a = true) (h : a < b) : cnt S a < cnt S b := by
  have := cnt_mono S (show a + 1 ≤ b by omega)
  rw [cnt_succ, hS] at this
  simp only [if_true] at this; omega
theorem cnt_inj {S : Nat → Bool} {a b : Nat} (ha : S a = true) (hb : S b = true) (h : cnt S a = cnt S b) : a = b := by
  rcases Nat.lt_trichotomy a b with h1 | h1 | h1
  · have := cnt_lt ha h1; omega
  · exact h1
  · have := cnt_lt hb h1; omega
theorem gd_append_left {α : Type} {xs ys : List α} {i : Nat} {d : α} (h : i < xs.length) : gd (xs ++ ys) i d = gd xs i d := by
  simp only [gd, List.getD_eq_getElem?_getD, List.getElem?_append_left h]
theorem gd_append_end {α : Type} {xs : List α} {y d : α} : gd (xs ++ [y]) xs.length d = y := by
  simp [gd, List.getD_eq_getElem?_getD]
theorem pns_at {S : Nat → Bool} : ∀ {n i : Nat}, i < n → S i = true → cnt S i < (pns S n).length ∧ gd (pns S n) (cnt S i) 0 = i
  | 0, i, h, _ => by omega
  | n + 1, i, h, hS => by
    rw [pns_succ]
    by_cases e : i = n
    · subst e
      rw [hS]
      simp only [if_true]
      exact ⟨by simp [cnt], gd_append_end⟩
    · obtain ⟨h1, h2⟩ := pns_at (n := n) (i := i) (by omega) hS
      exact ⟨by rw [List.length_append]; omega, by rw [gd_append_left h1]; exact h2⟩
theorem pns_get {S : Nat → Bool} : ∀ {n j : Nat}, j < (pns S n).length → ∃ i, i < n ∧ S i = true ∧ cnt S i = j ∧ gd (pns S n) j 0 = i
  | 0, j, h => by simp [pns] at h
  | n + 1, j, h => by
    by_cases hj : j < (pns S n).length
    · obtain ⟨i, h1, h2, h3, h4⟩ := pns_get hj
      exact ⟨i, by omega, h2, h3, by rw [pns_succ, gd_append_left hj]; exact h4⟩
    · have h1 : (pns S (n + 1)).length = cnt S n + (if S n then 1 else 0) := cnt_succ S n
      cases hS : S n with
      | false => rw [hS] at h1; simp only [Bool.false_eq_true, if_false, Nat.add_zero] at h1; have : cnt S n = (pns S n).length := rfl; omega
      | true =>
        rw [hS] at h1
        simp only [if_true] at h1
        have h2 : cnt S n = (pns S n).length := rfl
        have : j = (pns S n).length := by omega
        subst this
        exact ⟨n, by omega, hS, rfl, by rw [pns_succ, hS]; exact gd_append_end⟩
def own (S : Nat → Bool) : Nat → Option Nat
  | 0 => if S 0 then some 0 else none
  | k + 1 => if S (k + 1) then some (k + 1) else own S k
theorem own_at (S : Nat → Bool) : ∀ k, (own S k = none ∧ cnt S (k + 1) = 0) ∨ (∃ p, own S k = some p ∧ p ≤ k ∧ S p = true ∧ cnt S (k + 1) = cnt S p + 1)
  | 0 => by
    rw [cnt_succ]
    cases h : S 0 with
    | true => exact .inr ⟨0, by simp [own, h], by omega, h, by simp⟩
    | false => exact .inl ⟨by simp [own, h], by simp [cnt_zero]⟩
  | k + 1 => by
    rw [cnt_succ]
    cases h : S (k + 1) with
    | true => exact .inr ⟨k + 1, by simp [own, h], by omega, h, by simp⟩
    | false =>
      simp only [own, h, Bool.false_eq_true, if_false, Nat.add_zero]
      rcases own_at S k with h1 | ⟨p, h1, h2, h3⟩
      · exact .inl h1
      · exact .inr ⟨p, h1, by omega, h3⟩
theorem own_some {S : Nat → Bool} {k p : Nat} (h : own S k = some p) : p ≤ k ∧ S p = true ∧ cnt S (k + 1) = cnt S p + 1 := by
  rcases own_at S k with ⟨h1, _⟩ | ⟨q, h1, h2⟩
  · rw [h1] at h; cases h
  · rw [h1] at h; cases h; exact h2
theorem own_ne_none {S : Nat → Bool} {i k : Nat} (hS : S i = true) (h : i ≤ k) : own S k ≠ none := by
  rcases own_at S k with ⟨_, h2⟩ | ⟨q, h1, _⟩
  · have := cnt_lt hS (show i < k + 1 by omega); omega
  · rw [h1]; simp
theorem own_iff {S : Nat → Bool} {i t : Nat} (hS : S i = true) (ht : cnt S t = cnt S i + 1) (hmax : S t = true ∨ ∀ q, t ≤ q → S q = false ∨ True) {k : Nat} (hk : k < t) : own S k = some i ↔ i ≤ k := by
  constructor
  · intro h; exact (own_some h).1
  · intro h
    rcases own_at S k with ⟨h1, _⟩ | ⟨q, h1, h2, h3, h4⟩
    · exact absurd h1 (own_ne_none hS h)
    · have h5 := cnt_mono S (show k + 1 ≤ t by omega)
      have h6 := cnt_lt hS (show i < k + 1 by omega)
      have : q = i := cnt_inj h3 hS (by omega)
      rw [h1, this]
theorem rsum_zero {f : Nat → Int} : ∀ {n : Nat}, (∀ i, i < n → f i = 0) → rsum f n = 0
  | 0, _ => rfl
  | n + 1, h => by rw [rsum, rsum_zero (n := n) (fun i hi => h i (by omega)), h n (by omega)]; rfl
theorem rsum_ind {xs : List Int} {i t : Nat} (hit : i ≤ t) (g : Nat → Int) (h1 : ∀ k, k < i → g k = 0) (h2 : ∀ k, i ≤ k → k < t → g k = gd xs k 0) (h3 : ∀ k, t ≤ k → k < xs.length → g k = 0) (ht : t ≤ xs.length) : ∀ m, m ≤ xs.length → rsum g m = (if m ≤ i then 0 else if m ≤ t then psum xs m - psum xs i else psum xs t - psum xs i)
  | 0, _ => by simp [rsum]
  | m + 1, hm => by
    simp only [rsum, rsum_ind hit g h1 h2 h3 ht m (by omega)]
    by_cases c1 : m < i
    · rw [if_pos (by omega), if_pos (by omega), h1 m c1]; rfl
    · by_cases c2 : m < t
      · rw [h2 m (by omega) c2]
        by_cases c3 : m = i
        · subst c3; rw [if_pos (Nat.le_refl _), if_neg (by omega), if_pos (by omega), psum_succ (by omega)]; omega
        · rw [if_neg (by omega), if_pos (by omega), if_neg (by omega), if_pos (by omega), psum_succ (by omega)]; omega
      · rw [h3 m (by omega) (by omega)]
        by_cases c3 : m ≤ i
        · rw [if_pos c3, if_neg (by omega), if_neg (by omega)]
          obtain rfl : t = i := by omega
          omega
        · by_cases c4 : m = t
          · subst c4; rw [if_neg c3, if_pos (Nat.le_refl _), if_neg (by omega), if_neg (by omega)]; omega
          · rw [if_neg c3, if_neg (by omega), if_neg (by omega), if_neg (by omega)]; omega
theorem set_map_range {α : Type} (f : Nat → α) {n p : Nat} (v : α) (hp : p < n) : List.set ((List.range n).map f) p v = (List.range n).map fun t => if t = p then v else f t := by
  apply List.ext_getElem (by simp)
  intro i h1 h2
  simp only [List.getElem_set, List.getElem_map, List.getElem_range]
  by_cases e : p = i
  · simp [e]
  · simp [e, Ne.symm e]
theorem map_range_congr {α : Type} {f g : Nat → α} {n : Nat} (h : ∀ t, t < n → f t = g t) : (List.range n).map f = (List.range n).map g := List.map_congr_left fun t ht => h t (List.mem_range.1 ht)
theorem map_range_len {α : Type} (f : Nat → α) (n : Nat) : ((List.range n).map f).length = n := by simp
end Go.Rx
namespace Go.Rx.Px
def planV (S : Nat → Bool) (need : List Int) (i t : Nat) : Int := rsum (fun k => if own S k = some t then gd need k 0 else 0) i
def planL (S : Nat → Bool) (need : List Int) (i : Nat) : List Int := (List.range need.length).map (planV S need i)
def planS (S : Nat → Bool) (need : List Int) : List Int := planL S need need.length
def covS (S : Nat → Bool) (need : List Int) : Bool := (List.range need.length).all fun k => !decide (own S k = none) || !decide (0 < gd need k 0)
theorem planV_bd {S : Nat → Bool} {need : List Int} (hb : bd 20 need) {i : Nat} (hi : i ≤ need.length) (t : Nat) : 0 ≤ planV S need i t ∧ planV S need i t ≤ 20 * i := by
  have := rsum_bd (f := fun k => if own S k = some t then gd need k 0 else 0) (n := i) (lo := 0) (hi := 20) (fun k hk => by
    have := hb k (by omega)
    split <;> omega)
  simp only [planV]; omega
theorem planL_len (S : Nat → Bool) (need : List Int) (i : Nat) : (planL S need i).length = need.length := map_range_len _ _
theorem planL_gd (S : Nat → Bool) (need : List Int) (i : Nat) {t : Nat} (ht : t < need.length) : gd (planL S need i) t 0 = planV S need i t := gd_map_range _ _ ht
theorem planL_none {S : Nat → Bool} {need : List Int} {i : Nat} (h : own S i = none) : planL S need (i + 1) = planL S need i := map_range_congr fun t _ => by
  simp only [planV, rsum, h]; simp
theorem planL_some {S : Nat → Bool} {need : List Int} {i p : Nat} (h : own S i = some p) (hp : p < need.length) : planL S need (i + 1) = List.set (planL S need i) p (planV S need i p + gd need i 0) := by
  simp only [planL]
  rw [set_map_range _ _ hp]
  refine map_range_congr fun t _ => ?_
  simp only [planV, rsum, h]
  by_cases e : t = p
  · subst e; simp
  · rw [if_neg e, if_neg (by simpa using fun h => e h.symm)]; omega
theorem planL_zero (S : Nat → Bool) (need : List Int) : planL S need 0 = List.replicate need.length 0 := by
  simp only [planL]
  apply List.ext_getElem (by simp)
  intro i h1 h2
  simp [planV, rsum]
theorem cov_cases (S : Nat → Bool) (need : List Int) : (covS S need = true ∧ ∀ i, i < need.length → own S i = none → ¬ 0 < gd need i 0) ∨ (covS S need = false ∧ ∃ j, j < need.length ∧ (∀ i, i < j → own S i = none → ¬ 0 < gd need i 0) ∧ own S j = none ∧ 0 < gd need j 0) := by
  rcases first_cases (fun k => !decide (own S k = none) || !decide (0 < gd need k 0)) need.length with h | ⟨j, hj, hb, hat⟩
  · exact .inl ⟨rangeB.2 h, fun i hi h1 h2 => by have := h i hi; simp [h1, h2] at this⟩
  · refine .inr ⟨?_, j, hj, fun i hi h1 h2 => by have := hb i hi; simp [h1, h2] at this, ?_⟩
    · cases hl : covS S need with
      | false => rfl
      | true => have := rangeB.1 hl j hj; rw [hat] at this; cases this
    · simpa using hat
theorem next_test {S : Nat → Bool} {n i : Nat} (hi : i < n) : (decide (cnt S i < (pns S n).length) && decide (gd (pns S n) (cnt S i) 0 = (i : Int))) = S i := by
  cases hS : S i with
  | true =>
    obtain ⟨h1, h2⟩ := pns_at hi hS
    simp [h1, h2]
  | false =>
    by_cases h : cnt S i < (pns S n).length
    · obtain ⟨q, _, h2, h3, h4⟩ := pns_get h
      have : q ≠ i := fun e => by rw [e, hS] at h2; cases h2
      have : ¬ gd (pns S n) (cnt S i) 0 = (i : Int) := by rw [h4]; omega
      simp [this]
    · simp [h]
theorem impl_Case_planFrom_eq {N : Nat} {c : Cs} (hc : CaseP c) (S : Nat → Bool) (hN : 4194304 ≤ N) : impl_Case_planFrom N c (pns S c.1.length) = some (bif covS S c.1 then (planS S c.1, true) else ([], false), ()) := by
  have h8 := hc.n
  have hb := hc.b0
  have step : ∀ i, i < c.1.length → ∀ kx, impl_Case_planFrom_B1 N kx (pns S c.1.length) (cnt S i) c.1 c.1.length i (planL S c.1 i) =
      bif decide (own S i = none) && decide (0 < gd c.1 i 0) then some (([], false), ()) else kx (pns S c.1.length) (cnt S (i + 1)) c.1 c.1.length ((i + 1 : Nat) : Int) (planL S c.1 (i + 1)) := fun i hi kx => by
    have hn1 := cnt_le S i
    have hK : impl_Case_planFrom_B1 N kx (pns S c.1.length) (cnt S i) c.1 c.1.length i (planL S c.1 i) = impl_Case_planFrom_K2 N kx (pns S c.1.length) (cnt S i) (gd c.1 i 0) c.1 c.1.length i (S i) (planL S c.1 i) := by
      rw [← next_test (S := S) hi]
      simp only [impl_Case_planFrom_B1, ilt_eq, len_eq, Int.ofNat_lt, hi, decide_true, cond_true, inB_true hi, chk_true', Int.toNat_natCast, ieq_eq]
      by_cases h : cnt S i < (pns S c.1.length).length
      · simp only [h, decide_true, cond_true, inB_true h, chk_true', Bool.true_and]
      · simp only [h, decide_false, cond_false, Bool.false_and]
    have hK2 : impl_Case_planFrom_K2 N kx (pns S c.1.length) (cnt S i) (gd c.1 i 0) c.1 c.1.length i (S i) (planL S c.1 i) = impl_Case_planFrom_K1 N kx (pns S c.1.length) (cnt S (i + 1)) (gd c.1 i 0) c.1 c.1.length i (planL S c.1 i) := by
      simp only [impl_Case_planFrom_K2, cnt_succ]
      cases S i with
      | true => simp only [cond_true, if_true]; rw [iadd_nat (by omega)]
      | false => simp only [cond_false, Bool.false_eq_true, if_false, Nat.add_zero]
    rw [hK, hK2]
    simp only [impl_Case_planFrom_K1, ieq_eq, ilt_eq, iadd_nat (show i < 4611686018427387904 by omega)]
    rcases own_at S i with ⟨h1, h2⟩ | ⟨p, h1, h2, h3, h4⟩
    · rw [h2, planL_none h1]
      by_cases hp : 0 < gd c.1 i 0 <;> simp [h1, hp]
    · obtain ⟨g1, g2⟩ := pns_at (n := c.1.length) (show p < c.1.length by omega) h3
      have hbi := hb i hi
      have hv := planV_bd (S := S) hb (show i ≤ c.1.length by omega) p
      have hcp := cnt_le S p
      have e1 : isub .i64 ((cnt S (i + 1) : Nat) : Int) 1 = ((cnt S p : Nat) : Int) := by rw [isub_in (by omega) (by omega), h4]; omega
      have e2 : decide (((cnt S (i + 1) : Nat) : Int) = 0) = false := by rw [h4]; simp; omega
      have e3 : decide (own S i = none) = false := by rw [h1]; rfl
      simp only [e1, e2, e3, cond_false, Bool.false_and, inB_true g1, chk_true', Int.toNat_natCast, g2, inB_true (show p < (planL S c.1 i).length by rw [planL_len]; omega), planL_gd S c.1 i (show p < c.1.length by omega)]
      rw [iadd_in (by omega) (by omega), planL_some h1 (show p < c.1.length by omega)]
  simp only [impl_Case_planFrom, len_eq, chk_of (mkB_in (n := c.1.length) (b := 8) (by omega) (by omega)), Int.toNat_natCast, ← planL_zero S c.1]
  rcases cov_cases S c.1 with ⟨e, hall⟩ | ⟨e, j, hj, hbef, hat1, hat2⟩
  · rw [e]
    refine impl_Case_planFrom_L1_run N (fun _ => pns S c.1.length) (fun i => ((cnt S i : Nat) : Int)) (fun _ => c.1) (fun _ => (c.1.length : Int)) (fun i => (i : Int)) (planL S c.1) c.1.length (fun i hi kx => ?_) (fun kx => ?_) N (by omega)
    · rw [step i hi]
      by_cases h1 : own S i = none
      · simp [h1, hall i hi h1]
      · simp [h1]
    · simp only [impl_Case_planFrom_B1, impl_Case_planFrom_K3, ilt_eq, Int.lt_irrefl, decide_false, cond_false, cond_true, planS]
  · rw [e]
    refine impl_Case_planFrom_L1_run N (fun _ => pns S c.1.length) (fun i => ((cnt S i : Nat) : Int)) (fun _ => c.1) (fun _ => (c.1.length : Int)) (fun i => (i : Int)) (planL S c.1) j (fun i hi kx => ?_) (fun kx => ?_) N (by omega)
    · rw [step i (by omega)]
      by_cases h1 : own S i = none
      · simp [h1, hbef i hi h1]
      · simp [h1]
    · rw [step j hj]
      simp [hat1, hat2]
theorem first_test {S : Nat → Bool} {n t : Nat} (ht : t < n) : (decide (0 < (pns S n).length) && decide (gd (pns S n) 0 0 ≤ (t : Int))) = !decide (own S t = none) := by
  rcases own_at S t with ⟨h1, h2⟩ | ⟨p, h1, h2, h3, h4⟩
  · by_cases h : 0 < (pns S n).length
    · obtain ⟨q, _, g2, g3, g4⟩ := pns_get h
      have : ¬ q ≤ t := fun e => own_ne_none g2 e h1
      simp only [h1, decide_true, Bool.not_true, g4, h, Bool.true_and, decide_eq_false_iff_not]; omega
    · simp [h, h1]
  · obtain ⟨g1, _⟩ := pns_at (n := n) (show p < n by omega) h3
    have h : 0 < (pns S n).length := by omega
    obtain ⟨q, _, q2, q3, q4⟩ := pns_get h
    have : q ≤ p := by
      rcases Nat.lt_or_ge p q with e | e
      · have := cnt_lt h3 e; omega
      · exact e
    have h9 : decide (gd (pns S n) 0 0 ≤ (t : Int)) = true := by rw [q4]; simp; omega
    rw [h9, h1]
    simp [h]
theorem spec_l2Covers_eq {N : Nat} {c : Cs} (hc : CaseP c) (S : Nat → Bool) (hN : 4194304 ≤ N) : spec_l2Covers N c (pns S c.1.length) = some (covS S c.1, ()) := by
  have h8 := hc.n
  have step : ∀ t, t < c.1.length → ∀ kx, spec_l2Covers_B1 N kx (pns S c.1.length) t c = bif !decide (own S t = none) then some (true, ()) else bif decide (0 < gd c.1 t 0) then some (false, ()) else kx (pns S c.1.length) ((t + 1 : Nat) : Int) c := fun t ht kx => by
    rw [← first_test (S := S) ht]
    have e0 : (0 : Int).toNat = 0 := rfl
    simp only [spec_l2Covers_B1, ilt_eq, ile_eq, len_eq, Int.ofNat_lt, ht, decide_true, cond_true, inB_true ht, chk_true', Int.toNat_natCast, iadd_nat (show t < 4611686018427387904 by omega)]
    by_cases h : 0 < (pns S c.1.length).length
    · have h' : (0 : Int) < ((pns S c.1.length).length : Int) := by omega
      simp only [h, h', decide_true, cond_true, Bool.true_and, chk_of (inB_in (i := 0) (n := (pns S c.1.length).length) (by omega) (by omega))]
    · have h' : ¬ (0 : Int) < ((pns S c.1.length).length : Int) := by omega
      simp only [h, h', decide_false, cond_false, Bool.false_and]
  have stay : ∀ {a b : Nat}, a ≤ b → own S a ≠ none → own S b ≠ none := fun {a b} hab ha => by
    rcases own_at S a with ⟨h1, _⟩ | ⟨p, _, h2, h3, _⟩
    · exact absurd h1 ha
    · exact own_ne_none h3 (by omega)
  rcases first_cases (fun t => decide (own S t = none) && !decide (0 < gd c.1 t 0)) c.1.length with h | ⟨j, hj, hb, hat⟩
  · have hcov : covS S c.1 = true := rangeB.2 fun i hi => by
      have := h i hi
      simp only [Bool.and_eq_true] at this
      rw [this.2]; simp
    rw [hcov]
    refine spec_l2Covers_L1_run N (fun _ => pns S c.1.length) (fun i => (i : Int)) (fun _ => c) c.1.length (fun i hi kx => ?_) (fun kx => ?_) N (by omega)
    · rw [step i hi]
      have := h i hi
      simp only [Bool.and_eq_true, Bool.not_eq_true'] at this
      rw [this.1, this.2]; rfl
    · simp only [spec_l2Covers_B1, spec_l2Covers_K1, ilt_eq, len_eq, Int.lt_irrefl, decide_false, cond_false]
  · have hloop : ∀ i, i < j → ∀ kx, spec_l2Covers_B1 N kx (pns S c.1.length) i c = kx (pns S c.1.length) ((i + 1 : Nat) : Int) c := fun i hi kx => by
      rw [step i (by omega)]
      have := hb i hi
      simp only [Bool.and_eq_true, Bool.not_eq_true'] at this
      rw [this.1, this.2]; rfl
    refine spec_l2Covers_L1_run N (fun _ => pns S c.1.length) (fun i => (i : Int)) (fun _ => c) j hloop (fun kx => ?_) N (by omega)
    rw [step j hj]
    cases ho : decide (own S j = none) with
    | false =>
      have ho' : own S j ≠ none := by simpa using ho
      have hcov : covS S c.1 = true := rangeB.2 fun i hi => by
        by_cases hij : i < j
        · have := hb i hij
          simp only [Bool.and_eq_true] at this
          rw [this.2]; simp
        · have := stay (show j ≤ i by omega) ho'
          simp [this]
      rw [hcov]; rfl
    | true =>
      rw [ho] at hat
      have hn : decide (0 < gd c.1 j 0) = true := by simpa using hat
      have hcov : covS S c.1 = false := by
        cases hl : covS S c.1 with
        | false => rfl
        | true => have := rangeB.1 hl j hj; simp only [ho, hn] at this; cases this
      rw [hn, hcov]; rfl
theorem planV_eq {S : Nat → Bool} {need : List Int} {i t : Nat} (hS : S i = true) (hit : i < t) (ht : t ≤ need.length) (hcnt : cnt S t = cnt S i + 1) (hend : t = need.length ∨ S t = true) : planV S need need.length i = psum need t - psum need i := by
  have := rsum_ind (xs := need) (i := i) (t := t) (by omega) (fun k => if own S k = some i then gd need k 0 else 0) (fun k hk => by
    rw [if_neg fun h => by have := (own_some h).1; omega]) (fun k h1 h2 => by
    rw [if_pos ((own_iff hS hcnt (.inr fun _ _ => .inr trivial) h2).2 h1)]) (fun k h1 h2 => by
    rcases hend with h | h
    · omega
    · rw [if_neg]
      intro h3
      have h4 := (own_some h3).2.2
      have h5 := cnt_lt h (show t < k + 1 by omega)
      omega) ht need.length (Nat.le_refl _)
  simp only [planV]
  rw [this]
  by_cases h1 : need.length ≤ i
  · omega
  · rw [if_neg h1]
    by_cases h2 : need.length ≤ t
    · rw [if_pos h2]; obtain rfl : t = need.length := by omega
      rfl
    · rw [if_neg h2]
theorem planV_not {S : Nat → Bool} {need : List Int} {m t : Nat} (hS : S t = false) : planV S need m t = 0 := rsum_zero fun k _ => by
  rw [if_neg]
  intro h
  have := (own_some h).2.1
  rw [hS] at this; cases this
def fromL (S : Nat → Bool) (need : List Int) (j : Nat) : List Int := (List.range need.length).map fun t => if S t && decide (cnt S t < j) then planV S need need.length t else 0
theorem spec_l2From_eq {N : Nat} {c : Cs} (hc : CaseP c) (S : Nat → Bool) (hN : 4194304 ≤ N) : spec_l2From N c (pns S c.1.length) = some (planS S c.1, ()) := by
  have h8 := hc.n
  have hb := hc.b0
  have hlen := cnt_le S c.1.length
  have hpl : (pns S c.1.length).length = cnt S c.1.length := rfl
  have hfl : ∀ j, (fromL S c.1 j).length = c.1.length := fun j => map_range_len _ _
  have h0 : fromL S c.1 0 = List.replicate c.1.length 0 := by
    apply List.ext_getElem (by simp [fromL])
    intro i h1 h2
    simp [fromL]
  simp only [spec_l2From, len_eq, chk_of (mkB_in (n := c.1.length) (b := 8) (by omega) (by omega)), Int.toNat_natCast, ← h0]
  refine spec_l2From_L1_run N (fun _ => pns S c.1.length) (fun i => (i : Int)) (fun _ => c) (fromL S c.1) (pns S c.1.length).length (fun j hj kx => ?_) (fun kx => ?_) N (by omega)
  · obtain ⟨i, g1, g2, g3, g4⟩ := pns_get hj
    have key : ∀ t : Nat, i < t → t ≤ c.1.length → cnt S t = cnt S i + 1 → (t = c.1.length ∨ S t = true) →
        spec_l2From_K1 N kx (pns S c.1.length) j t c (fromL S c.1 j) = kx (pns S c.1.length) ((j + 1 : Nat) : Int) c (fromL S c.1 (j + 1)) := fun t h1 h2 h3 h4 => by
      simp only [spec_l2From_K1, inB_true hj, chk_true', Int.toNat_natCast, g4, chk_of (cutB_in (show (0 : Int) ≤ i by omega) (show (i : Int) ≤ t by omega) (show (t : Int) ≤ c.1.length by omega)), spec_l2Sum_eq (N := N) (bd_cut (i := i) (t := t) hb h2) (by omega) (by rw [cut_len (i := i) (t := t) _ h2]; omega) hN, Option.bind_some, inB_true (show i < (fromL S c.1 j).length by rw [hfl]; omega), iadd_nat (show j < 4611686018427387904 by omega)]
      congr 1
      rw [sum_cut (by omega), ← planV_eq g2 h1 h2 h3 h4]
      simp only [fromL]
      rw [set_map_range _ _ g1]
      refine map_range_congr fun u _ => ?_
      by_cases e : u = i
      · subst e; rw [if_pos rfl, g2, g3]; simp
      · rw [if_neg e]
        cases hu : S u with
        | false => simp
        | true =>
          have : cnt S u ≠ j := fun h => e (cnt_inj hu g2 (by omega))
          simp only [Bool.true_and, decide_eq_true_eq]
          by_cases h9 : cnt S u < j
          · rw [if_pos h9, if_pos (by omega)]
          · rw [if_neg h9, if_neg (by omega)]
    simp only [spec_l2From_B1, ilt_eq, len_eq, Int.ofNat_lt, hj, decide_true, cond_true, iadd_nat (show j < 4611686018427387904 by omega)]
    by_cases hj1 : j + 1 < (pns S c.1.length).length
    · obtain ⟨t, q1, q2, q3, q4⟩ := pns_get hj1
      have hit : i < t := by
        rcases Nat.lt_or_ge i t with e | e
        · exact e
        · have := cnt_mono S e; omega
      simp only [hj1, decide_true, cond_true, inB_true hj1, chk_true', Int.toNat_natCast, q4]
      exact key t hit (by omega) (by omega) (.inr q2)
    · have : ¬ (((j + 1 : Nat) : Int) < ((pns S c.1.length).length : Int)) := by omega
      simp only [hj1, decide_false, cond_false]
      exact key c.1.length g1 (Nat.le_refl _) (by omega) (.inl rfl)
  · simp only [spec_l2From_B1, spec_l2From_K2, ilt_eq, len_eq, Int.lt_irrefl, decide_false, cond_false, planS, planL, fromL]
    congr 2
    refine map_range_congr fun t ht => ?_
    cases hS : S t with
    | false => simp [planV_not hS]
    | true =>
      have := (pns_at ht hS).1
      simp [this]
theorem planS_P {c : Cs} (hc : CaseP c) (S : Nat → Bool) : PlanP c (planS S c.1) := by
  refine ⟨hc, planL_len _ _ _, fun i hi => ?_⟩
  rw [planS, planL_len] at hi
  have h8 := hc.n
  have := planV_bd (S := S) hc.b0 (Nat.le_refl _) i
  rw [planS, planL_gd S c.1 _ hi]; omega
end Go.Rx.Px
namespace Go.Rx
theorem iand_one {q : Nat} (h : q < 1000000000) : iand .i64 (q : Int) 1 = ((q % 2 : Nat) : Int) := by
  have e : (BitVec.ofInt 64 (q : Int) &&& BitVec.ofInt 64 1).toNat = q % 2 := by
    rw [BitVec.toNat_and, BitVec.toNat_ofInt, BitVec.toNat_ofInt]
    have e1 : ((q : Int) % ((2 ^ 64 : Nat) : Int)).toNat = q := by
      rw [Int.emod_eq_of_lt (by omega) (by omega)]; simp
    have e2 : ((1 : Int) % ((2 ^ 64 : Nat) : Int)).toNat = 1 := by decide
    rw [e1, e2, Nat.and_one_is_mod]
  show IntKind.i64.wrap (((BitVec.ofInt 64 (q : Int) &&& BitVec.ofInt 64 1).toNat : Nat) : Int) = _
  rw [e, wrap_in (by omega) (by omega)]
theorem bit_eq {code x : Nat} (hc : code < 1000000000) (hx : x ≤ 60) : ieq (iand .i64 (ishr .i64 (code : Int) (x : Int)) 1) 1 = code.testBit x := by
  have h1 : ishr .i64 (code : Int) (x : Int) = ((code / 2 ^ x : Nat) : Int) := by
    simp only [ishr, Int.toNat_natCast, show IntKind.i64.bits = 64 from rfl, Nat.min_eq_left (show x ≤ 64 by omega)]
    rw [Int.fdiv_eq_ediv_of_nonneg _ (Int.pow_nonneg (by omega))]
    simp
  have hm : code / 2 ^ x ≤ code := Nat.div_le_self _ _
  rw [h1, Nat.testBit_eq_decide_div_mod_eq]
  generalize code / 2 ^ x = q at hm
  rw [iand_one (by omega)]
  simp only [ieq_eq, decide_eq_decide]; omega
theorem ishl_one {n : Nat} (h : n ≤ 30) : ishl .i64 1 (n : Int) = ((2 ^ n : Nat) : Int) := by
  have h1 : 2 ^ n ≤ 2 ^ 30 := Nat.pow_le_pow_right (by omega) h
  simp only [ishl, Int.toNat_natCast, show IntKind.i64.bits = 64 from rfl, Nat.min_eq_left (show n ≤ 64 by omega)]
  rw [show (1 : Int) * 2 ^ n = ((2 ^ n : Nat) : Int) by simp]
  generalize 2 ^ n = q at h1
  exact wrap_in (by omega) (by omega)
noncomputable def lexlt (a b : List Int) : Bool := @decide (∃ j, j < a.length ∧ (∀ i, i < j → gd a i 0 = gd b i 0) ∧ gd a j 0 < gd b j 0) (Classical.propDecidable _)
theorem lex_same {a b : List Int} (h : ∀ i, i < a.length → gd a i 0 = gd b i 0) : lexlt a b = false := by
  simp only [lexlt, decide_eq_false_iff_not]
  rintro ⟨j, hj, _, h2⟩
  have := h j hj; omega
theorem lex_at {a b : List Int} {j : Nat} (hj : j < a.length) (hb : ∀ i, i < j → gd a i 0 = gd b i 0) (hne : gd a j 0 ≠ gd b j 0) : lexlt a b = decide (gd a j 0 < gd b j 0) := by
  simp only [lexlt]
  rw [decide_eq_decide]
  constructor
  · rintro ⟨k, hk, h1, h2⟩
    rcases Nat.lt_trichotomy k j with h | h | h
    · have := hb k h; omega
    · subst h; exact h2
    · exact absurd (h1 j h) hne
  · intro h; exact ⟨j, hj, hb, h⟩
noncomputable def befB (a b : List Int) : Bool := decide (a.length < b.length) || (decide (a.length = b.length) && lexlt a b)
theorem same_cases (a b : List Int) : (∀ i, i < a.length → gd a i 0 = gd b i 0) ∨ ∃ j, j < a.length ∧ (∀ i, i < j → gd a i 0 = gd b i 0) ∧ gd a j 0 ≠ gd b j 0 := by
  rcases first_cases (fun i => decide (gd a i 0 = gd b i 0)) a.length with h | ⟨j, hj, hb, hat⟩
  · exact .inl fun i hi => by simpa using h i hi
  · exact .inr ⟨j, hj, fun i hi => by simpa using hb i hi, by simpa using hat⟩
end Go.Rx
namespace Go.Rx.Px
theorem cmp_Compare_int_eq (N : Nat) (x y : Int) : cmp_Compare_int N x y = some (if x < y then -1 else if y < x then 1 else 0, ()) := by
  simp only [cmp_Compare_int, cmp_isNaN_int, ilt_eq, ine_eq, decide_true, Bool.not_true, Option.bind_some, cond_false]
  by_cases h : x < y
  · simp [h]
  · by_cases h2 : y < x <;> simp [h, h2]
theorem slices_Compare_int_int_eq {N : Nat} {a b : List Int} (hl : a.length = b.length) (hs : a.length < 4194304) (hN : 4194304 ≤ N) : ∃ r, slices_Compare_int_int N a b = some (r, ()) ∧ decide (r < 0) = lexlt a b := by
  have step : ∀ i, i < a.length → ∀ kx, slices_Compare_int_int_B1 N kx a b a a.length i = bif decide (gd a i 0 = gd b i 0) then kx a b a a.length ((i + 1 : Nat) : Int) else some (if gd a i 0 < gd b i 0 then -1 else 1, ()) := fun i hi kx => by
    simp only [slices_Compare_int_int_B1, ilt_eq, ile_eq, len_eq, Int.ofNat_lt, Int.ofNat_le, hi, decide_true, cond_true, inB_true hi, inB_true (show i < b.length by omega), show ¬ b.length ≤ i by omega, decide_false, cond_false, chk_true', Int.toNat_natCast, cmp_Compare_int_eq, Option.bind_some, ine_eq, iadd_nat (show i < 4611686018427387904 by omega)]
    by_cases h : gd a i 0 = gd b i 0
    · simp [h]
    · by_cases h2 : gd a i 0 < gd b i 0
      · simp [h, h2]
      · simp [h, h2, show gd b i 0 < gd a i 0 by omega]
  rcases same_cases a b with h | ⟨j, hj, hb, hat⟩
  · refine ⟨0, ?_, by rw [lex_same h]; rfl⟩
    refine slices_Compare_int_int_L1_run N (fun _ => a) (fun _ => b) (fun _ => a) (fun _ => (a.length : Int)) (fun i => (i : Int)) a.length (fun i hi kx => by rw [step i hi, decide_eq_true (h i hi)]; rfl) (fun kx => ?_) N (by omega)
    simp only [slices_Compare_int_int_B1, slices_Compare_int_int_K1, ilt_eq, len_eq, hl, Int.lt_irrefl, decide_false, cond_false]
  · refine ⟨if gd a j 0 < gd b j 0 then -1 else 1, ?_, by rw [lex_at hj hb hat]; by_cases h : gd a j 0 < gd b j 0 <;> simp [h]⟩
    exact slices_Compare_int_int_L1_run N (fun _ => a) (fun _ => b) (fun _ => a) (fun _ => (a.length : Int)) (fun i => (i : Int)) j (fun i hi kx => by rw [step i (by omega), decide_eq_true (hb i hi)]; rfl) (fun kx => by rw [step j hj, decide_eq_false hat]; rfl) N (by omega)
theorem spec_l2Before_eq {N : Nat} {a b : List Int} (hs : a.length < 4194304) (hN : 4194304 ≤ N) : spec_l2Before N a b = some (befB a b, ()) := by
  by_cases hl : a.length = b.length
  · have step : ∀ i, i < a.length → ∀ kx, spec_l2Before_B1 N kx a b i = bif decide (gd a i 0 = gd b i 0) then kx a b ((i + 1 : Nat) : Int) else some (decide (gd a i 0 < gd b i 0), ()) := fun i hi kx => by
      simp only [spec_l2Before_B1, ilt_eq, len_eq, Int.ofNat_lt, hi, decide_true, cond_true, inB_true hi, inB_true (show i < b.length by omega), chk_true', Int.toNat_natCast, ine_eq, bif_not, iadd_nat (show i < 4611686018427387904 by omega)]
    have e : befB a b = lexlt a b := by simp [befB, hl]
    simp only [spec_l2Before, ine_eq, len_eq, len_dec, hl, decide_true, bif_not, cond_true, e]
    rcases same_cases a b with h | ⟨j, hj, hb, hat⟩
    · rw [lex_same h]
      refine spec_l2Before_L1_run N (fun _ => a) (fun _ => b) (fun i => (i : Int)) a.length (fun i hi kx => by rw [step i hi, decide_eq_true (h i hi)]; rfl) (fun kx => ?_) N (by omega)
      simp only [spec_l2Before_B1, spec_l2Before_K1, ilt_eq, len_eq, Int.lt_irrefl, decide_false, cond_false]
    · rw [lex_at hj hb hat]
      exact spec_l2Before_L1_run N (fun _ => a) (fun _ => b) (fun i => (i : Int)) j (fun i hi kx => by rw [step i (by omega), decide_eq_true (hb i hi)]; rfl) (fun kx => by rw [step j hj, decide_eq_false hat]; rfl) N (by omega)
  · have : befB a b = decide (a.length < b.length) := by simp [befB, hl]
    simp only [spec_l2Before, ine_eq, ilt_eq, len_eq, len_dec, hl, decide_false, bif_not, cond_false, this]
    congr 2; rw [decide_eq_decide]; omega
def bitS (k : Nat) : Nat → Bool := fun x => k.testBit x
theorem spec_l2Bits_eq {N n k : Nat} (hn : n ≤ 30) (hk : k < 1000000000) (hN : 4194304 ≤ N) : spec_l2Bits N n k = some (pns (bitS k) n, ()) := by
  refine spec_l2Bits_L1_run N (fun _ => (n : Int)) (fun _ => (k : Int)) (fun i => (i : Int)) (pns (bitS k)) n (fun i hi kx => ?_) (fun kx => ?_) N (by omega)
  · have hc := cnt_le (bitS k) i
    simp only [cnt] at hc
    simp only [spec_l2Bits_B1, ilt_eq, Int.ofNat_lt, hi, decide_true, cond_true, ile_eq, show (0 : Int) ≤ i by omega, chk_true', bit_eq hk (show i ≤ 60 by omega), chk_of (fitB_in (n := (pns (bitS k) i).length + 1) (b := 8) (by omega) (by omega)), pns_succ, iadd_nat (show i < 4611686018427387904 by omega)]
    cases h : k.testBit i <;> simp [bitS, h]
  · simp only [spec_l2Bits_B1, spec_l2Bits_K1, ilt_eq, Int.lt_irrefl, decide_false, cond_false]
def tk (least cost : Int) (bef : Bool) : Bool := decide (least < 0) || (decide (cost < least) || (decide (cost = least) && bef))
noncomputable def bestSt (c : Cs) : Nat → List Int × Int
  | 0 => ([], -1)
  | k + 1 => if covS (bitS k) c.1 && tk (bestSt c k).2 (costOf c (planS (bitS k) c.1)) (befB (pns (bitS k) c.1.length) (bestSt c k).1) then (pns (bitS k) c.1.length, costOf c (planS (bitS k) c.1)) else bestSt c k
theorem bestSt_len (c : Cs) : ∀ k, (bestSt c k).1.length ≤ c.1.length
  | 0 => by simp [bestSt]
  | k + 1 => by
    simp only [bestSt]; split
    · exact cnt_le _ _
    · exact bestSt_len c k
theorem bestSt_is (c : Cs) : ∀ k, (bestSt c k = ([], -1) ∧ ∀ j, j < k → covS (bitS j) c.1 = false) ∨ (∃ j, j < k ∧ covS (bitS j) c.1 = true ∧ bestSt c k = (pns (bitS j) c.1.length, costOf c (planS (bitS j) c.1)))
  | 0 => .inl ⟨rfl, fun j h => by omega⟩
  | k + 1 => by
    simp only [bestSt]
    rcases bestSt_is c k with ⟨h1, h2⟩ | ⟨j, h1, h2, h3⟩
    · cases hc : covS (bitS k) c.1 with
      | false =>
        refine .inl ⟨by simp [h1], fun j hj => ?_⟩
        by_cases e : j = k
        · rw [e]; exact hc
        · exact h2 j (by omega)
      | true => exact .inr ⟨k, by omega, hc, by simp [h1, tk]⟩
    · by_cases h : (covS (bitS k) c.1 && tk (bestSt c k).2 (costOf c (planS (bitS k) c.1)) (befB (pns (bitS k) c.1.length) (bestSt c k).1)) = true
      · rw [if_pos h]
        exact .inr ⟨k, by omega, (by simp only [Bool.and_eq_true] at h; exact h.1), rfl⟩
      · rw [if_neg h]
        exact .inr ⟨j, by omega, h2, h3⟩
theorem cov_one {c : Cs} : covS (bitS (if c.1.length = 0 then 0 else 1)) c.1 = true := by
  by_cases h : c.1.length = 0
  · rw [if_pos h]; exact rangeB.2 fun i hi => by omega
  · rw [if_neg h]
    refine rangeB.2 fun i hi => ?_
    have : own (bitS 1) i ≠ none := own_ne_none (i := 0) (by decide) (by omega)
    simp [this]
theorem best_found (c : Cs) : ∃ j, j < 2 ^ c.1.length ∧ covS (bitS j) c.1 = true ∧ bestSt c (2 ^ c.1.length) = (pns (bitS j) c.1.length, costOf c (planS (bitS j) c.1)) := by
  rcases bestSt_is c (2 ^ c.1.length) with ⟨_, h⟩ | h
  · have h1 := h (if c.1.length = 0 then 0 else 1) (by
      split
      · rename_i e; rw [e]; decide
      · rename_i e
        have : 2 ^ 1 ≤ 2 ^ c.1.length := Nat.pow_le_pow_right (by omega) (by omega)
        omega)
    rw [cov_one] at h1; cases h1
  · exact h
theorem pow_le8 {n : Nat} (h : n ≤ 8) : 2 ^ n ≤ 256 := Nat.pow_le_pow_right (n := 2) (by omega) h
theorem impl_Case_best_eq {N : Nat} {c : Cs} (hc : CaseP c) (hN : 4194304 ≤ N) : impl_Case_best N c = some (bestSt c (2 ^ c.1.length), ()) := by
  have h8 := hc.n
  have hp := pow_le8 h8
  simp only [impl_Case_best, ile_eq, len_eq, show (0 : Int) ≤ c.1.length by omega, decide_true, chk_true', ishl_one (show c.1.length ≤ 30 by omega)]
  refine impl_Case_best_L2_run N (fun k => (bestSt c k).2) (fun _ => ((2 ^ c.1.length : Nat) : Int)) (fun k => (k : Int)) (fun _ => c) (fun k => (bestSt c k).1) (2 ^ c.1.length) (fun k hk kx => ?_) (fun kx => ?_) N (by omega)
  · simp only [impl_Case_best_B2, ilt_eq, Int.ofNat_lt, hk, decide_true, cond_true, len_eq]
    have inner : impl_Case_best_L1 N N kx (bestSt c k).2 k ((2 ^ c.1.length : Nat) : Int) k c.1.length 0 c (bestSt c k).1 [] = impl_Case_best_K2 N kx (bestSt c k).2 ((2 ^ c.1.length : Nat) : Int) k c (bestSt c k).1 (pns (bitS k) c.1.length) := by
      refine impl_Case_best_L1_run N kx (fun _ => (bestSt c k).2) (fun _ => (k : Int)) (fun _ => ((2 ^ c.1.length : Nat) : Int)) (fun _ => (k : Int)) (fun _ => (c.1.length : Int)) (fun i => (i : Int)) (fun _ => c) (fun _ => (bestSt c k).1) (pns (bitS k)) c.1.length (fun i hi kx1 => ?_) (fun kx1 => ?_) N (by omega)
      · have hcl := cnt_le (bitS k) i
        simp only [cnt] at hcl
        simp only [impl_Case_best_B1, ilt_eq, Int.ofNat_lt, hi, decide_true, cond_true, ile_eq, show (0 : Int) ≤ i by omega, chk_true', bit_eq (show k < 1000000000 by omega) (show i ≤ 60 by omega), chk_of (fitB_in (n := (pns (bitS k) i).length + 1) (b := 8) (by omega) (by omega)), pns_succ, iadd_nat (show i < 4611686018427387904 by omega)]
        cases h : k.testBit i <;> simp [bitS, h]
      · simp only [impl_Case_best_B1, ilt_eq, Int.lt_irrefl, decide_false, cond_false]
    rw [inner]
    have hl := bestSt_len c k
    have hpn : (pns (bitS k) c.1.length).length ≤ c.1.length := cnt_le _ _
    simp only [impl_Case_best_K2, impl_Case_planFrom_eq hc (bitS k) hN, Option.bind_some, bif_not, bestSt]
    cases hcov : covS (bitS k) c.1 with
    | false => simp [iadd_nat (show k < 4611686018427387904 by omega)]
    | true =>
      simp only [cond_true, impl_Case_cost_eq (planS_P hc (bitS k)) hN, Option.bind_some, Bool.true_and]
      have hK1 : ∀ b : Bool, impl_Case_best_K1 N kx (bestSt c k).2 (costOf c (planS (bitS k) c.1)) b ((2 ^ c.1.length : Nat) : Int) k c (bestSt c k).1 (pns (bitS k) c.1.length) =
          bif tk (bestSt c k).2 (costOf c (planS (bitS k) c.1)) b then kx (costOf c (planS (bitS k) c.1)) ((2 ^ c.1.length : Nat) : Int) ((k + 1 : Nat) : Int) c (pns (bitS k) c.1.length) else kx (bestSt c k).2 ((2 ^ c.1.length : Nat) : Int) ((k + 1 : Nat) : Int) c (bestSt c k).1 := fun b => by
        simp only [impl_Case_best_K1, ilt_eq, ieq_eq, tk, iadd_nat (show k < 4611686018427387904 by omega)]
        by_cases q1 : (bestSt c k).2 < 0
        · simp [q1]
        · by_cases q2 : costOf c (planS (bitS k) c.1) < (bestSt c k).2
          · simp [q1, q2]
          · by_cases q3 : costOf c (planS (bitS k) c.1) = (bestSt c k).2
            · cases b <;> simp [q1, q2, q3]
            · simp [q1, q2, q3]
      have hb : ∀ X : Bool → Option ((List Int × Int) × Unit), (bif ilt (len (pns (bitS k) c.1.length)) (len (bestSt c k).1) then X true else bif ieq (len (pns (bitS k) c.1.length)) (len (bestSt c k).1) then (slices_Compare_int_int N (pns (bitS k) c.1.length) (bestSt c k).1).bind fun r2 => X (ilt r2.1 0) else X false) = X (befB (pns (bitS k) c.1.length) (bestSt c k).1) := fun X => by
        simp only [ilt_eq, ieq_eq, len_eq, Int.ofNat_lt, len_dec, befB]
        by_cases q1 : (pns (bitS k) c.1.length).length < (bestSt c k).1.length
        · simp [q1]
        · by_cases q2 : (pns (bitS k) c.1.length).length = (bestSt c k).1.length
          · obtain ⟨r, e1, e2⟩ := slices_Compare_int_int_eq (N := N) q2 (by omega) hN
            simp only [q1, q2, Nat.lt_irrefl, decide_true, decide_false, cond_true, cond_false, e1, Option.bind_some, e2, Bool.false_or, Bool.true_and]
          · simp [q1, q2]
      rw [hb (fun b => impl_Case_best_K1 N kx (bestSt c k).2 (costOf c (planS (bitS k) c.1)) b ((2 ^ c.1.length : Nat) : Int) k c (bestSt c k).1 (pns (bitS k) c.1.length)), hK1]
      cases tk (bestSt c k).2 (costOf c (planS (bitS k) c.1)) (befB (pns (bitS k) c.1.length) (bestSt c k).1) <;> rfl
  · simp only [impl_Case_best_B2, impl_Case_best_K3, ilt_eq, Int.lt_irrefl, decide_false, cond_false]
theorem spec_l2Best_eq {N : Nat} {c : Cs} (hc : CaseP c) (hN : 4194304 ≤ N) : spec_l2Best N c = some ((bestSt c (2 ^ c.1.length)).1, ()) := by
  have h8 := hc.n
  have hp := pow_le8 h8
  refine spec_l2Best_L1_run N (fun k => (bestSt c k).2) (fun k => (k : Int)) (fun _ => c) (fun k => (bestSt c k).1) (2 ^ c.1.length) (fun k hk kx => ?_) (fun kx => ?_) N (by omega)
  · have hl := bestSt_len c k
    have hpn : (pns (bitS k) c.1.length).length ≤ c.1.length := cnt_le _ _
    simp only [spec_l2Best_B1, ile_eq, len_eq, show (0 : Int) ≤ c.1.length by omega, decide_true, chk_true', ishl_one (show c.1.length ≤ 30 by omega), ilt_eq, Int.ofNat_lt, hk, cond_true, spec_l2Bits_eq (N := N) (show c.1.length ≤ 30 by omega) (show k < 1000000000 by omega) hN, Option.bind_some, spec_l2Covers_eq hc (bitS k) hN, bif_not, bestSt]
    cases hcov : covS (bitS k) c.1 with
    | false => simp [iadd_nat (show k < 4611686018427387904 by omega)]
    | true =>
      simp only [cond_true, spec_l2From_eq hc (bitS k) hN, spec_l2Cost_eq (planS_P hc (bitS k)) hN, Option.bind_some, Bool.true_and, spec_l2Before_eq (N := N) (a := pns (bitS k) c.1.length) (b := (bestSt c k).1) (by omega) hN, ieq_eq, tk, iadd_nat (show k < 4611686018427387904 by omega)]
      by_cases q1 : (bestSt c k).2 < 0
      · simp [q1]
      · by_cases q2 : costOf c (planS (bitS k) c.1) < (bestSt c k).2
        · simp [q1, q2]
        · by_cases q3 : costOf c (planS (bitS k) c.1) = (bestSt c k).2
          · cases befB (pns (bitS k) c.1.length) (bestSt c k).1 <;> simp [q1, q2, q3]
          · simp [q1, q2, q3]
  · simp only [spec_l2Best_B1, spec_l2Best_K1, ile_eq, len_eq, show (0 : Int) ≤ c.1.length by omega, decide_true, chk_true', ishl_one (show c.1.length ≤ 30 by omega), ilt_eq, Int.lt_irrefl, decide_false, cond_false]
end Go.Rx.Px
namespace Go.Rx
abbrev Ch := List Int × List Int × List Int
def RngCh (c : Ch) : Prop := RngI c.1 ∧ RngI c.2.1 ∧ RngI c.2.2
def upB (xs : List Int) : Bool := (List.range (xs.length - 1)).all fun i => decide (gd xs i 0 ≤ gd xs (i + 1) 0)
theorem upB_iff {xs : List Int} : upB xs = true ↔ ∀ i, i + 1 < xs.length → gd xs i 0 ≤ gd xs (i + 1) 0 := by
  simp only [upB, rangeB, decide_eq_true_eq]
  exact ⟨fun h i hi => h i (by omega), fun h i hi => h i (by omega)⟩
theorem up_left (xs : List Int) : (upB xs = true ∧ ∀ i, i + 1 < xs.length → gd xs i 0 ≤ gd xs (i + 1) 0) ∨ (upB xs = false ∧ ∃ j, j + 1 < xs.length ∧ (∀ i, i < j → gd xs i 0 ≤ gd xs (i + 1) 0) ∧ gd xs (j + 1) 0 < gd xs j 0) := by
  rcases first_cases (fun i => decide (gd xs i 0 ≤ gd xs (i + 1) 0)) (xs.length - 1) with h | ⟨j, hj, hb, hat⟩
  · exact .inl ⟨rangeB.2 h, fun i hi => by simpa using h i (by omega)⟩
  · have hat' : gd xs (j + 1) 0 < gd xs j 0 := Int.not_le.1 (by simpa using hat)
    refine .inr ⟨?_, j, by omega, fun i hi => by simpa using hb i hi, hat'⟩
    cases hl : upB xs with
    | false => rfl
    | true => exact absurd (upB_iff.1 hl j (by omega)) (by omega)
theorem up_right (xs : List Int) : (upB xs = true ∧ ∀ i, i + 1 < xs.length → gd xs i 0 ≤ gd xs (i + 1) 0) ∨ (upB xs = false ∧ ∃ j, j + 1 < xs.length ∧ (∀ i, i < j → gd xs (xs.length - 2 - i) 0 ≤ gd xs (xs.length - 1 - i) 0) ∧ gd xs (xs.length - 1 - j) 0 < gd xs (xs.length - 2 - j) 0) := by
  rcases first_cases (fun i => decide (gd xs (xs.length - 2 - i) 0 ≤ gd xs (xs.length - 1 - i) 0)) (xs.length - 1) with h | ⟨j, hj, hb, hat⟩
  · have h' : ∀ i, i + 1 < xs.length → gd xs i 0 ≤ gd xs (i + 1) 0 := fun i hi => by
      have := h (xs.length - 2 - i) (by omega)
      simp only [decide_eq_true_eq] at this
      rwa [show xs.length - 2 - (xs.length - 2 - i) = i by omega, show xs.length - 1 - (xs.length - 2 - i) = i + 1 by omega] at this
    exact .inl ⟨upB_iff.2 h', h'⟩
  · have hat' : gd xs (xs.length - 1 - j) 0 < gd xs (xs.length - 2 - j) 0 := Int.not_le.1 (by simpa using hat)
    refine .inr ⟨?_, j, by omega, fun i hi => by simpa using hb i hi, hat'⟩
    cases hl : upB xs with
    | false => rfl
    | true =>
      have := upB_iff.1 hl (xs.length - 2 - j) (by omega)
      rw [show xs.length - 2 - j + 1 = xs.length - 1 - j by omega] at this
      omega
end Go.Rx
namespace Go.Rx.Px
def chainB (c : Ch) : Bool := decide (c.1.length ≤ 6) && (c.1.all (inRg 0 20) && (inRg 1 3 c.2.1.length && (decide (c.2.2.length = c.2.1.length) && (c.2.1.all (inRg 0 99) && (c.2.2.all (inRg 0 9) && upB c.2.2)))))
structure ChainP (c : Ch) : Prop where
  n : c.1.length ≤ 6
  s1 : 1 ≤ c.2.1.length
  s3 : c.2.1.length ≤ 3
  l : c.2.2.length = c.2.1.length
  b0 : bd 20 c.1
  b1 : bd 99 c.2.1
  b2 : bd 9 c.2.2
  up : ∀ i, i + 1 < c.2.2.length → gd c.2.2 i 0 ≤ gd c.2.2 (i + 1) 0
theorem chainP {c : Ch} (h : chainB c = true) : ChainP c := by
  simp only [chainB, Bool.and_eq_true, decide_eq_true_eq, bd_iff, inRg, upB_iff] at h
  obtain ⟨h1, h2, ⟨h3, h4⟩, h5, h6, h7, h8⟩ := h
  exact ⟨h1, by omega, by omega, h5, h2, h6, h7, h8⟩
structure SmCh (c : Ch) : Prop where
  s0 : c.1.length < 4194304
  s1 : c.2.1.length < 4194304
  s2 : c.2.2.length < 4194304
theorem cmp_Less_int_eq (N : Nat) (x y : Int) : cmp_Less_int N x y = some (decide (x < y), ()) := by
  simp only [cmp_Less_int, cmp_isNaN_int, ine_eq, decide_true, Bool.not_true, Option.bind_some, cond_false, ilt_eq]
theorem slices_IsSorted_int_int_eq {N : Nat} {xs : List Int} (hs : xs.length < 4194304) (hN : 4194304 ≤ N) : slices_IsSorted_int_int N xs = some (upB xs, ()) := by
  have e0 : isub .i64 (len xs) 1 = (xs.length : Int) - 1 - (0 : Nat) := by rw [len_eq, isub_in (by omega) (by omega)]; omega
  simp only [slices_IsSorted_int_int, e0]
  have step : ∀ i, i + 1 < xs.length → ∀ kx, slices_IsSorted_int_int_B1 N kx xs ((xs.length : Int) - 1 - i) = bif decide (gd xs (xs.length - 1 - i) 0 < gd xs (xs.length - 2 - i) 0) then some (false, ()) else kx xs ((xs.length : Int) - 1 - (i + 1 : Nat)) := fun i hi kx => by
    have e1 : (xs.length : Int) - 1 - i = ((xs.length - 1 - i : Nat) : Int) := by omega
    have e2 : isub .i64 ((xs.length - 1 - i : Nat) : Int) 1 = ((xs.length - 2 - i : Nat) : Int) := by rw [isub_in (by omega) (by omega)]; omega
    have e3 : (xs.length : Int) - 1 - (i + 1 : Nat) = ((xs.length - 2 - i : Nat) : Int) := by omega
    rw [e1, e3]
    simp only [slices_IsSorted_int_int_B1, ilt_eq, show (0 : Int) < ((xs.length - 1 - i : Nat) : Int) by omega, decide_true, cond_true, e2, inB_true (show xs.length - 1 - i < xs.length by omega), inB_true (show xs.length - 2 - i < xs.length by omega), chk_true', Int.toNat_natCast, cmp_Less_int_eq, Option.bind_some]
  rcases up_right xs with ⟨e, hall⟩ | ⟨e, j, hj, hb, hat⟩
  · rw [e]
    by_cases hl : xs.length = 0
    · refine slices_IsSorted_int_int_L1_run N (fun _ => xs) (fun i => (xs.length : Int) - 1 - i) 0 (fun i hi kx => by omega) (fun kx => ?_) N (by omega)
      simp only [slices_IsSorted_int_int_B1, slices_IsSorted_int_int_K1, ilt_eq, show ¬ (0 : Int) < (xs.length : Int) - 1 - (0 : Nat) by omega, decide_false, cond_false]
    · refine slices_IsSorted_int_int_L1_run N (fun _ => xs) (fun i => (xs.length : Int) - 1 - i) (xs.length - 1) (fun i hi kx => ?_) (fun kx => ?_) N (by omega)
      · have h1 := hall (xs.length - 2 - i) (by omega)
        rw [show xs.length - 2 - i + 1 = xs.length - 1 - i by omega] at h1
        rw [step i (by omega), decide_eq_false (by omega)]; rfl
      · simp only [slices_IsSorted_int_int_B1, slices_IsSorted_int_int_K1, ilt_eq, show ¬ (0 : Int) < (xs.length : Int) - 1 - (xs.length - 1 : Nat) by omega, decide_false, cond_false]
  · rw [e]
    refine slices_IsSorted_int_int_L1_run N (fun _ => xs) (fun i => (xs.length : Int) - 1 - i) j (fun i hi kx => ?_) (fun kx => ?_) N (by omega)
    · have h1 := hb i hi
      rw [step i (by omega), decide_eq_false (by omega)]; rfl
    · rw [step j hj, decide_eq_true hat]; rfl
theorem impl_IsChain_eq {N : Nat} {c : Ch} (hs : SmCh c) (hN : 4194304 ≤ N) : impl_IsChain N c = some (chainB c, ()) := by
  simp only [impl_IsChain, ile_eq, ieq_eq, len_eq, impl_allWithin_eq hs.s0 hN, impl_allWithin_eq hs.s1 hN, impl_allWithin_eq hs.s2 hN, impl_within_eq, slices_IsSorted_int_int_eq hs.s2 hN, Option.bind_some, chainB, len_dec]
  have e : decide ((c.1.length : Int) ≤ 6) = decide (c.1.length ≤ 6) := by rw [decide_eq_decide]; omega
  rw [e]
  cases decide (c.1.length ≤ 6) <;> cases c.1.all (inRg 0 20) <;> cases inRg 1 3 c.2.1.length <;> cases decide (c.2.2.length = c.2.1.length) <;> cases c.2.1.all (inRg 0 99) <;> cases c.2.2.all (inRg 0 9) <;> rfl
theorem spec_l7Good_eq {N : Nat} {c : Ch} (hs : SmCh c) (hN : 4194304 ≤ N) : spec_l7Good N c = some (chainB c, ()) := by
  simp only [spec_l7Good, ilt_eq, len_eq, spec_l2Row_eq hs.s0 hN, spec_l2Row_eq hs.s1 hN, spec_l2Row_eq hs.s2 hN, spec_l1In_eq, Option.bind_some, chainB, bif_not, len_dec, decide_true, Bool.and_true]
  have e : decide ((6 : Int) < c.1.length) = !decide (c.1.length ≤ 6) := by
    by_cases h : c.1.length ≤ 6
    · simp [h]; omega
    · simp [h]; omega
  rw [e, bif_not]
  have hloop : spec_l7Good_L1 N N 1 c = some (upB c.2.2, ()) := by
    have s2 := hs.s2
    have step : ∀ i, i + 1 < c.2.2.length → ∀ kx, spec_l7Good_B1 N kx ((1 + i : Nat) : Int) c = bif decide (gd c.2.2 (i + 1) 0 < gd c.2.2 i 0) then some (false, ()) else kx ((1 + (i + 1) : Nat) : Int) c := fun i hi kx => by
      have e1 : isub .i64 ((i + 1 : Nat) : Int) 1 = (i : Int) := by rw [isub_in (by omega) (by omega)]; omega
      rw [show 1 + i = i + 1 by omega, show 1 + (i + 1) = i + 1 + 1 by omega]
      simp only [spec_l7Good_B1, ilt_eq, len_eq, Int.ofNat_lt, hi, decide_true, cond_true, inB_true hi, inB_true (show i < c.2.2.length by omega), chk_true', e1, Int.toNat_natCast, iadd_nat (show i + 1 < 4611686018427387904 by omega)]
    rcases up_left c.2.2 with ⟨e, hall⟩ | ⟨e, j, hj, hb, hat⟩
    · rw [e]
      refine spec_l7Good_L1_run N (fun i => ((1 + i : Nat) : Int)) (fun _ => c) (c.2.2.length - 1) (fun i hi kx => ?_) (fun kx => ?_) N (by omega)
      · have h1 := hall i (by omega)
        rw [step i (by omega), decide_eq_false (by omega)]; rfl
      · simp only [spec_l7Good_B1, spec_l7Good_K1, ilt_eq, len_eq, Int.ofNat_lt, show ¬ 1 + (c.2.2.length - 1) < c.2.2.length by omega, decide_false, cond_false]
    · rw [e]
      refine spec_l7Good_L1_run N (fun i => ((1 + i : Nat) : Int)) (fun _ => c) j (fun i hi kx => ?_) (fun kx => ?_) N (by omega)
      · have h1 := hb i hi
        rw [step i (by omega), decide_eq_false (by omega)]; rfl
      · rw [step j hj, decide_eq_true hat]; rfl
  rw [hloop]
  cases decide (c.1.length ≤ 6) <;> cases c.1.all (inRg 0 20) <;> cases inRg 1 3 c.2.1.length <;> cases decide (c.2.2.length = c.2.1.length) <;> cases c.2.1.all (inRg 0 99) <;> cases c.2.2.all (inRg 0 9) <;> rfl
theorem laws_szChain_eq (N : Nat) {c : Ch} {left : Int} (h : RngCh c) (h1 : 0 ≤ left) (h2 : left ≤ 1048576) : ∃ r, laws_szChain N c left = some (r, ()) ∧ (r < 0 ∨ 0 ≤ r ∧ r ≤ left ∧ SmCh c) := by
  simp only [laws_szChain, ilt_eq]
  obtain ⟨r1, e1, q1⟩ := laws_szIntS_eq N h.1.1 h1 h2
  rcases q1 with q1 | q1
  · exact ⟨-1, by simp [e1, q1], .inl (by omega)⟩
  obtain ⟨r2, e2, q2⟩ := laws_szIntS_eq N h.2.1.1 q1.1 (show r1 ≤ 1048576 by omega)
  have n1 : ¬ r1 < 0 := by omega
  rcases q2 with q2 | q2
  · exact ⟨-1, by simp [e1, e2, q2, n1], .inl (by omega)⟩
  obtain ⟨r3, e3, q3⟩ := laws_szIntS_eq N h.2.2.1 q2.1 (show r2 ≤ 1048576 by omega)
  have n2 : ¬ r2 < 0 := by omega
  rcases q3 with q3 | q3
  · exact ⟨-1, by simp [e1, e2, e3, q3, n1, n2], .inl (by omega)⟩
  have n3 : ¬ r3 < 0 := by omega
  exact ⟨r3, by simp [e1, e2, e3, n1, n2, n3], .inr ⟨by omega, by omega, by omega, by omega, by omega⟩⟩
theorem laws_toChain_eq {N : Nat} {c : Ch} (h : SmCh c) (hN : 4194304 ≤ N) : laws_toChain N c = some (c, ()) := by
  simp only [laws_toChain, laws_toIntS_eq h.s0 hN, laws_toIntS_eq h.s1 hN, laws_toIntS_eq h.s2 hN, Option.bind_some]
theorem laws_eqChain_refl {N : Nat} {c : Ch} (h : SmCh c) (hN : 4194304 ≤ N) : laws_eqChain N c c = some (true, ()) := by
  simp only [laws_eqChain, laws_eqIntS_eq h.s0 hN, laws_eqIntS_eq h.s1 hN, laws_eqIntS_eq h.s2 hN, Option.bind_some, decide_true, Bool.not_true, cond_false]
def evenC (need : List Int) (setup hold : Int) : Cs := (need, (List.replicate need.length setup, (List.replicate need.length 0, List.replicate need.length hold)))
theorem rep_succ (n : Nat) (a : Int) : List.replicate (n + 1) a = List.replicate n a ++ [a] := List.replicate_succ'
theorem bd_rep {b a : Int} (n : Nat) (h : 0 ≤ a ∧ a ≤ b) : bd b (List.replicate n a) := fun i hi => by
  simp only [List.length_replicate] at hi
  have : gd (List.replicate n a) i 0 = a := by simp [gd, List.getD_eq_getElem?_getD, hi]
  rw [this]; exact h
theorem evenC_P {need : List Int} {setup hold : Int} (hn : need.length ≤ 6) (hb : bd 20 need) (hs : 0 ≤ setup ∧ setup ≤ 99) (hh : 0 ≤ hold ∧ hold ≤ 9) : CaseP (evenC need setup hold) :=
  ⟨by show need.length ≤ 8; omega, by simp [evenC], by simp [evenC], by simp [evenC], hb, bd_rep _ hs, bd_rep _ (by omega), bd_rep _ hh⟩
theorem impl_evenCase_eq {N : Nat} {need : List Int} (setup hold : Int) (hn : need.length ≤ 6) (hN : 4194304 ≤ N) : impl_evenCase N need setup hold = some (evenC need setup hold, ()) := by
  simp only [impl_evenCase, impl_copied_eq (show need.length < 4194303 by omega), Option.bind_some, len_eq, chk_of (mkB_in (n := need.length) (b := 8) (by omega) (by omega)), Int.toNat_natCast]
  refine impl_evenCase_L1_run N (fun _ => setup) (fun _ => hold) (fun _ => (need.length : Int)) (fun i => (i : Int)) (fun _ => ([], ([], ([], [])))) (fun i => (need, (List.replicate i setup, (List.replicate need.length 0, List.replicate i hold)))) need.length (fun i hi kx => ?_) (fun kx => ?_) N (by omega)
  · simp only [impl_evenCase_B1, ilt_eq, Int.ofNat_lt, hi, decide_true, cond_true, List.length_replicate, chk_of (fitB_in (n := i + 1) (b := 8) (by omega) (by omega)), iadd_nat (show i < 4611686018427387904 by omega), rep_succ]
  · simp only [impl_evenCase_B1, impl_evenCase_K1, ilt_eq, Int.lt_irrefl, decide_false, cond_false, evenC]
theorem spec_l7Case_eq {N : Nat} {need : List Int} (setup hold : Int) (hn : need.length ≤ 6) (hN : 4194304 ≤ N) : spec_l7Case N need setup hold = some (evenC need setup hold, ()) := by
  refine spec_l7Case_L1_run N (fun _ => need) (fun _ => setup) (fun _ => hold) (fun i => (i : Int)) (fun _ => ([], ([], ([], [])))) (fun i => (need.take i, (List.replicate i setup, (List.replicate i 0, List.replicate i hold)))) need.length (fun i hi kx => ?_) (fun kx => ?_) N (by omega)
  · have hl : (need.take i).length = i := by simp; omega
    simp only [spec_l7Case_B1, ilt_eq, len_eq, Int.ofNat_lt, hi, decide_true, cond_true, inB_true hi, chk_true', Int.toNat_natCast, List.length_replicate, hl, chk_of (fitB_in (n := i + 1) (b := 8) (by omega) (by omega)), iadd_nat (show i < 4611686018427387904 by omega), rep_succ, take_succ need i 0 hi]
  · simp only [spec_l7Case_B1, spec_l7Case_K1, ilt_eq, len_eq, Int.lt_irrefl, decide_false, cond_false, evenC, List.take_length]
end Go.Rx.Px
namespace Go.Rx
theorem range_cases (p : Nat → Bool) (n : Nat) : ((List.range n).all p = true ∧ ∀ t, t < n → p t = true) ∨ ((List.range n).all p = false ∧ ∃ j, j < n ∧ (∀ t, t < j → p t = true) ∧ p j = false) := by
  rcases first_cases p n with h | ⟨j, hj, hb, hat⟩
  · exact .inl ⟨rangeB.2 h, h⟩
  · refine .inr ⟨?_, j, hj, hb, hat⟩
    cases hl : (List.range n).all p with
    | false => rfl
    | true => exact absurd (rangeB.1 hl j hj) (by simp [hat])
abbrev Pl := List (List Int)
structure SmPl (p : Pl) : Prop where
  l : p.length < 4194304
  r : ∀ s, s < p.length → (gd p s []).length < 4194304
end Go.Rx
namespace Go.Rx.Px
theorem laws_eqIntSS_refl {N : Nat} {a : Pl} (h : SmPl a) (hN : 4194304 ≤ N) : laws_eqIntSS N a a = some (true, ()) := by
  have hl := h.l
  simp only [laws_eqIntSS, ine_eq, len_eq, decide_true, Bool.not_true, cond_false]
  refine laws_eqIntSS_L1_run N (fun _ => a) (fun _ => a) (fun i => i) a.length (fun i hi kx => ?_) (fun kx => ?_) N (by omega)
  · simp only [laws_eqIntSS_B1, ilt_eq, len_eq, Int.ofNat_lt, hi, decide_true, cond_true, inB_true hi, chk_true', Int.toNat_natCast, iadd_nat (show i < 4611686018427387904 by omega), laws_eqIntS_eq (h.r i hi) hN, Option.bind_some, Bool.not_true, cond_false]
  · simp only [laws_eqIntSS_B1, laws_eqIntSS_K1, ilt_eq, len_eq, Int.lt_irrefl, decide_false, cond_false]
end Go.Rx.Px
namespace Go.Rx
def RngB (xs : List Int) : Prop := xs.length ≤ maxLen ∧ ∀ i, i < xs.length → (Lit.int .u8 (xs.getD i 0)).wf = true
theorem u8_bd {x : Int} (h : (Lit.int .u8 x).wf = true) : 0 ≤ x ∧ x ≤ 255 := by
  simpa [Lit.wf, IntKind.min, IntKind.max, IntKind.signed, IntKind.bits] using h
theorem RngB.bd {xs : List Int} (h : RngB xs) : ∀ i, i < xs.length → 0 ≤ gd xs i 0 ∧ gd xs i 0 ≤ 255 := fun i hi => u8_bd (h.2 i hi)
end Go.Rx
namespace Go.Rx.Px
structure Len9 (c : Cs) (n : Nat) : Prop where
  l0 : c.1.length ≤ n
  l1 : c.2.1.length ≤ n
  l2 : c.2.2.1.length ≤ n
  l3 : c.2.2.2.length ≤ n
theorem Len9.sm {c : Cs} {n : Nat} (h : Len9 c n) (hn : n < 4194304) : c.1.length < 4194304 ∧ c.2.1.length < 4194304 ∧ c.2.2.1.length < 4194304 ∧ c.2.2.2.length < 4194304 := ⟨by have := h.l0; omega, by have := h.l1; omega, by have := h.l2; omega, by have := h.l3; omega⟩
theorem planS_len (S : Nat → Bool) (need : List Int) : (planS S need).length = need.length := planL_len _ _ _
def bts (s : ByteArray) : List UInt8 := s.data.toList
def csN (l : List UInt8) : Nat := l.foldl (fun h b => (41 * h + b.toNat + 1) % 999979) 7
theorem foldl_lt (l : List UInt8) : ∀ h : Nat, h < 999979 → l.foldl (fun h b => (41 * h + b.toNat + 1) % 999979) h < 999979 := by
  induction l with
  | nil => exact fun h hh => hh
  | cons b l ih => exact fun h _ => ih _ (Nat.mod_lt _ (by omega))
theorem csN_lt (l : List UInt8) : csN l < 999979 := foldl_lt l 7 (by omega)
theorem dec_len (u : Nat) : ∀ d : Nat, u < 10 ^ (d + 1) → (Lib.decDigits u).length ≤ d + 1 := by
  intro d
  induction d generalizing u with
  | zero => intro h; rw [Lib.decDigits_one (by omega)]; simp
  | succ d ih =>
    intro h
    rw [Lib.decDigits]
    by_cases c : u < 10
    · rw [dif_pos c]; simp
    · rw [dif_neg c, List.length_append]
      have := ih (u / 10) (by rw [Nat.pow_succ] at h; omega)
      simp; omega
def numT (n : Int) : List UInt8 := Lib.itoa n
theorem numT_nat (u : Nat) : numT (u : Int) = Lib.decDigits u := Lib.itoa_nonneg u
def sealT (t : List UInt8) : List UInt8 := t ++ [35] ++ numT (csN t)
def textT (k : Int) (a b : List UInt8) : List UInt8 := numT k ++ [32] ++ a ++ [64] ++ b
def lineT (k : Int) (a b : List UInt8) : List UInt8 := sealT (textT k a b) ++ [10]
theorem numT_len {k : Int} (h0 : 0 ≤ k) (h1 : k < 1000000) : (numT k).length ≤ 6 := by
  obtain ⟨u, rfl⟩ : ∃ u : Nat, k = (u : Int) := ⟨k.toNat, by omega⟩
  rw [numT_nat]; exact dec_len u 5 (by omega)
structure RecP (e : ByteArray × ByteArray) : Prop where
  some : e.1 ≠ ⟨#[]⟩
  pl1 : ∀ c ∈ bts e.1, 32 ≤ c.toNat ∧ c.toNat ≤ 126 ∧ c ≠ 35 ∧ c ≠ 64
  n1 : (bts e.1).length ≤ 160
  pl2 : ∀ c ∈ bts e.2, 32 ≤ c.toNat ∧ c.toNat ≤ 126 ∧ c ≠ 35
  n2 : (bts e.2).length ≤ 200
def bef (c : UInt8) (l : List UInt8) : List UInt8 := l.takeWhile fun b => b != c
structure Line (k : Nat) (l : List UInt8) (e : ByteArray × ByteArray) : Prop where
  hk : k < 60
  hr : RecP e
  heq : lineT k (bts e.1) (bts e.2) = l ++ [10]
theorem Line.sealed {k : Nat} {l : List UInt8} {e : ByteArray × ByteArray} (h : Line k l e) : l = sealT (textT k (bts e.1) (bts e.2)) := by
  have := h.heq
  unfold lineT at this
  exact ((List.append_inj_left' this rfl)).symm
theorem Line.len {k : Nat} {l : List UInt8} {e : ByteArray × ByteArray} (h : Line k l e) : (textT k (bts e.1) (bts e.2)).length ≤ 400 ∧ l.length ≤ 410 := by
  have h1 := h.hr.n1
  have h2 := h.hr.n2
  have h3 := numT_len (k := (k : Int)) (by omega) (by have := h.hk; omega)
  have h4 := csN_lt (textT k (bts e.1) (bts e.2))
  have h5 := numT_len (k := (csN (textT k (bts e.1) (bts e.2)) : Nat)) (by omega) (by omega)
  have h6 : (textT k (bts e.1) (bts e.2)).length ≤ 400 := by simp only [textT, List.length_append, List.length_singleton]; omega
  refine ⟨h6, ?_⟩
  rw [h.sealed]
  simp only [sealT, List.length_append, List.length_singleton]; omega
end Go.Rx.Px
namespace Go.Rx
theorem cnt_filter (S : Nat → Bool) (n : Nat) : cnt S n = ((List.range n).filter S).length := by simp [cnt, pns]
end Go.Rx
namespace Go.Rx.Px
def setsX (X : Nat → Nat → Int) (s t : Nat) : Bool := decide (X s t < X s (t + 1))
def dem (c : Ch) (a b : Nat) : Int := psum c.1 b - psum c.1 a
structure SubX (c : Ch) (s t a b : Nat) (Y : Nat → Nat → Int) : Prop where
  top : ∀ u, Y s u = if t < u then dem c a b else 0
  z : ∀ r, s ≤ r → r ≤ c.2.1.length → Y r 0 = 0
  m : ∀ r, s ≤ r → r < c.2.1.length → ∀ u, u < c.1.length → Y r u ≤ Y r (u + 1)
  d : ∀ r, s ≤ r → r < c.2.1.length → ∀ u, u ≤ c.1.length → Y (r + 1) u ≤ Y r u
  e : ∀ u, u ≤ c.1.length → Y c.2.1.length u = psum c.1 (max a (min u b)) - psum c.1 a
def subCost (c : Ch) (s : Nat) (Y : Nat → Nat → Int) : Int :=
  rsum (fun r => (if s < r then gd c.2.1 r 0 * (cnt (setsX Y r) c.1.length : Int) else 0) + (if s ≤ r then gd c.2.2 r 0 * rsum (fun u => Y r (u + 1) - Y (r + 1) (u + 1)) c.1.length else 0)) c.2.1.length
theorem cnt_none {S : Nat → Bool} {n : Nat} (h : ∀ p, p < n → S p = false) : cnt S n = 0 := by
  rw [cnt_filter, List.length_eq_zero_iff, List.filter_eq_nil_iff]
  intro p hp
  rw [h p (List.mem_range.1 hp)]; simp
theorem sub_zero {c : Ch} (hc : ChainP c) {s t a b : Nat} (hab : a ≤ b) (hb : b ≤ c.1.length) (hd : dem c a b = 0) : SubX c s t a b (fun _ _ => 0) ∧ subCost c s (fun _ _ => 0) = 0 := by
  refine ⟨⟨fun u => by rw [hd]; simp, fun _ _ _ => rfl, fun _ _ _ _ _ => Int.le_refl _, fun _ _ _ _ _ => Int.le_refl _, fun u hu => ?_⟩, ?_⟩
  · have h1 := psum_mono hc.b0 (show a ≤ max a (min u b) by omega) (by omega)
    have h2 := psum_mono hc.b0 (show max a (min u b) ≤ b by omega) hb
    simp only [dem] at hd
    show (0 : Int) = _; omega
  · refine rsum_zero fun r hr => ?_
    have e1 : cnt (setsX (fun _ _ => (0 : Int)) r) c.1.length = 0 := cnt_none fun p _ => by simp [setsX]
    have e2 : rsum (fun u => (0 : Int) - 0) c.1.length = 0 := rsum_zero fun _ _ => rfl
    rw [e1, e2]; simp
theorem gdl_ext {xs ys : Pl} (hl : xs.length = ys.length) (h : ∀ i, i < xs.length → gd xs i [] = gd ys i []) : xs = ys := by
  apply List.ext_getElem hl
  intro i h1 h2
  have := h i h1
  simpa [gd, List.getD_eq_getElem?_getD, List.getElem?_eq_getElem h1, List.getElem?_eq_getElem h2] using this
theorem gdl_set {xs : Pl} {i j : Nat} {v : List Int} (hi : i < xs.length) : gd (List.set xs i v) j [] = if j = i then v else gd xs j [] := by
  by_cases e : j = i
  · subst e; rw [if_pos rfl]; simp [gd, List.getD_eq_getElem?_getD, hi]
  · rw [if_neg e]; simp [gd, List.getD_eq_getElem?_getD, List.getElem?_set_ne (Ne.symm e)]
structure ChLen (c : Ch) : Prop where
  l0 : c.1.length ≤ 8
  l1 : c.2.1.length ≤ 3
  l2 : c.2.2.length ≤ 4
theorem ChLen.sm {c : Ch} (h : ChLen c) : SmCh c := ⟨by have := h.l0; omega, by have := h.l1; omega, by have := h.l2; omega⟩
theorem evenC_sm {need : List Int} (a h : Int) (hn : need.length < 4194304) : SmC (evenC need a h) := ⟨hn, by simp [evenC]; exact hn, by simp [evenC]; exact hn, by simp [evenC]; exact hn⟩
def preN (a : Pl) : Nat → Nat
  | 0 => 0
  | s + 1 => preN a s + (gd a s []).length
def mkLL (a : Pl) (k : Int) (s : Nat) : Pl := (List.range a.length).map fun i => if i < s then mkL (gd a i []).length (k + (preN a i : Nat)) else gd a i []
theorem mkLL_len (a : Pl) (k : Int) (s : Nat) : (mkLL a k s).length = a.length := map_range_len _ _
theorem mkLL_gd (a : Pl) (k : Int) (s : Nat) {i : Nat} (h : i < a.length) : gd (mkLL a k s) i [] = if i < s then mkL (gd a i []).length (k + (preN a i : Nat)) else gd a i [] := gd_map_range _ [] h
structure TinyP (a : Pl) : Prop where
  l : a.length ≤ 1000
  r : ∀ s, s < a.length → (gd a s []).length ≤ 1000
theorem preN_le {a : Pl} (h : TinyP a) : ∀ s, s ≤ a.length → preN a s ≤ 1000 * s
  | 0, _ => Nat.zero_le _
  | s + 1, hs => by have := preN_le h s (by omega); have := h.r s (by omega); simp only [preN]; omega
theorem laws_markIntSS_eq {N : Nat} {a : Pl} {k : Int} (h : TinyP a) (h0 : 0 ≤ k) (h1 : k ≤ 100000000000) (hN : 4194304 ≤ N) : laws_markIntSS N a k = some (k + (preN a a.length : Nat), mkLL a k a.length) := by
  have hl := h.l
  have e0 : mkLL a k 0 = a := gdl_ext (mkLL_len _ _ _) fun i hi => by rw [mkLL_len] at hi; rw [mkLL_gd a k 0 hi, if_neg (by omega)]
  have key := laws_markIntSS_L1_run N (fun s => k + (preN a s : Nat)) (fun s => (s : Int)) (fun s => mkLL a k s) a.length (res_ := some (k + (preN a a.length : Nat), mkLL a k a.length)) (fun s hs kx => ?_) (fun kx => ?_) N (by omega)
  · simp only [preN, e0] at key
    rw [show k + ((0 : Nat) : Int) = k by omega] at key
    exact key
  · have hp := preN_le h s (by omega)
    have hr := h.r s hs
    have e1 : gd (mkLL a k s) s [] = gd a s [] := by rw [mkLL_gd a k s hs, if_neg (by omega)]
    simp only [laws_markIntSS_B1, ilt_eq, len_eq, mkLL_len, Int.ofNat_lt, hs, decide_true, cond_true, inB_true hs, chk_true', Int.toNat_natCast, e1, laws_markIntS_eq (a := gd a s []) (k := k + (preN a s : Nat)) (by omega) (by omega) (by omega) hN, Option.bind_some, iadd_nat (show s < 4611686018427387904 by omega)]
    have e2 : k + (preN a s : Nat) + ((gd a s []).length : Nat) = k + ((preN a (s + 1) : Nat) : Int) := by simp only [preN]; omega
    have e3 : List.set (mkLL a k s) s (mkL (gd a s []).length (k + (preN a s : Nat))) = mkLL a k (s + 1) := gdl_ext (by simp [mkLL_len]) fun i hi => by
      simp only [List.length_set, mkLL_len] at hi
      rw [gdl_set (by rw [mkLL_len]; exact hs), mkLL_gd a k s hi, mkLL_gd a k (s + 1) hi]
      by_cases e : i = s
      · subst e; rw [if_pos rfl, if_pos (by omega)]
      · rw [if_neg e]
        by_cases e2 : i < s
        · rw [if_pos e2, if_pos (by omega)]
        · rw [if_neg e2, if_neg (by omega)]
    rw [e2, e3]
  · simp only [laws_markIntSS_B1, laws_markIntSS_K1, ilt_eq, len_eq, mkLL_len, Int.lt_irrefl, decide_false, cond_false]
theorem laws_heldIntSS_eq {N : Nat} {a : Pl} {k : Int} (h : TinyP a) (h0 : 0 ≤ k) (h1 : k ≤ 100000000000) (hN : 4194304 ≤ N) : laws_heldIntSS N (mkLL a k a.length) k = some (k + (preN a a.length : Nat), ()) := by
  have hl := h.l
  have key := laws_heldIntSS_L1_run N (fun _ => mkLL a k a.length) (fun s => k + (preN a s : Nat)) (fun s => (s : Int)) a.length (res_ := some (k + (preN a a.length : Nat), ())) (fun s hs kx => ?_) (fun kx => ?_) N (by omega)
  · simp only [preN] at key
    rw [show k + ((0 : Nat) : Int) = k by omega] at key
    exact key
  · have hp := preN_le h s (by omega)
    have hr := h.r s hs
    have e1 : gd (mkLL a k a.length) s [] = mkL (gd a s []).length (k + (preN a s : Nat)) := by rw [mkLL_gd a k _ hs, if_pos hs]
    have e2 : k + (preN a s : Nat) + ((gd a s []).length : Nat) = k + ((preN a (s + 1) : Nat) : Int) := by simp only [preN]; omega
    simp only [laws_heldIntSS_B1, ilt_eq, len_eq, mkLL_len, Int.ofNat_lt, hs, decide_true, cond_true, inB_true hs, chk_true', Int.toNat_natCast, e1, laws_heldIntS_eq (n := (gd a s []).length) (k := k + (preN a s : Nat)) (by omega) (by omega) (by omega) hN, Option.bind_some, e2, show ¬ k + ((preN a (s + 1) : Nat) : Int) < 0 by omega, decide_false, cond_false, iadd_nat (show s < 4611686018427387904 by omega)]
  · simp only [laws_heldIntSS_B1, laws_heldIntSS_K1, ilt_eq, len_eq, mkLL_len, Int.lt_irrefl, decide_false, cond_false]
theorem markChain_run {N : Nat} {c : Ch} {k : Int} (hc : SmCh c) (h0 : 0 ≤ k) (h1 : k ≤ 900000000000) (hN : 4194304 ≤ N) : ∃ r c', laws_markChain N c k = some (r, c') ∧ k ≤ r ∧ r ≤ k + 20000000 := by
  obtain ⟨r1, a1, m1, b1, b1'⟩ := markIntS_run (N := N) hc.s0 h0 (by omega) hN
  obtain ⟨r2, a2, m2, b2, b2'⟩ := markIntS_run (N := N) (k := r1) hc.s1 (by omega) (by omega) hN
  obtain ⟨r3, a3, m3, b3, b3'⟩ := markIntS_run (N := N) (k := r2) hc.s2 (by omega) (by omega) hN
  exact ⟨r3, (a1, (a2, a3)), by simp only [laws_markChain, m1, m2, m3, Option.bind_some], by omega, by omega⟩
theorem TinyP.sm {a : Pl} (h : TinyP a) : SmPl a := ⟨by have := h.l; omega, fun s hs => by have := h.r s hs; omega⟩
noncomputable def bestK (c : Cs) : Nat := Classical.choose (best_found c)
theorem bestK_is (c : Cs) : covS (bitS (bestK c)) c.1 = true ∧ bestSt c (2 ^ c.1.length) = (pns (bitS (bestK c)) c.1.length, costOf c (planS (bitS (bestK c)) c.1)) := (Classical.choose_spec (best_found c)).2
noncomputable def swS (c : Ch) (j : Nat) (need : List Int) : Nat → Bool := bitS (bestK (evenC need (gd c.2.1 (c.2.1.length - 1 - j) 0) (gd c.2.2 (c.2.1.length - 1 - j) 0)))
noncomputable def swN (c : Ch) : Nat → List Int
  | 0 => c.1
  | j + 1 => planS (swS c j (swN c j)) (swN c j)
theorem swN_len (c : Ch) : ∀ j, (swN c j).length = c.1.length
  | 0 => rfl
  | j + 1 => by simp only [swN, planS_len]; exact swN_len c j
def okN (need : List Int) : Bool := need.all (inRg 0 20)
theorem okN_bd {need : List Int} : okN need = true ↔ bd 20 need := bd_iff
theorem swN_cov (c : Ch) (j : Nat) : covS (swS c j (swN c j)) (swN c j) = true := (bestK_is _).1
theorem caseB_even {need : List Int} {a h : Int} (hn : need.length ≤ 6) (ha : 0 ≤ a ∧ a ≤ 99) (hh : 0 ≤ h ∧ h ≤ 9) : caseB (evenC need a h) = okN need := by
  rw [Bool.eq_iff_iff, caseB_iff, okN_bd]
  constructor
  · intro hp; exact hp.b0
  · intro hb; exact evenC_P hn hb ha hh
theorem sw_stage {N : Nat} {c : Ch} (hc : ChainP c) {j : Nat} (hj : j < c.2.1.length) (hok : okN (swN c j) = true) (hN : 4194304 ≤ N) :
    impl_Case_best N (evenC (swN c j) (gd c.2.1 (c.2.1.length - 1 - j) 0) (gd c.2.2 (c.2.1.length - 1 - j) 0)) = some ((pns (swS c j (swN c j)) (swN c j).length, costOf (evenC (swN c j) (gd c.2.1 (c.2.1.length - 1 - j) 0) (gd c.2.2 (c.2.1.length - 1 - j) 0)) (planS (swS c j (swN c j)) (swN c j))), ()) ∧
    impl_Case_planFrom N (evenC (swN c j) (gd c.2.1 (c.2.1.length - 1 - j) 0) (gd c.2.2 (c.2.1.length - 1 - j) 0)) (pns (swS c j (swN c j)) (swN c j).length) = some ((swN c (j + 1), true), ()) ∧
    spec_l2Best N (evenC (swN c j) (gd c.2.1 (c.2.1.length - 1 - j) 0) (gd c.2.2 (c.2.1.length - 1 - j) 0)) = some (pns (swS c j (swN c j)) (swN c j).length, ()) ∧
    spec_l2From N (evenC (swN c j) (gd c.2.1 (c.2.1.length - 1 - j) 0) (gd c.2.2 (c.2.1.length - 1 - j) 0)) (pns (swS c j (swN c j)) (swN c j).length) = some (swN c (j + 1), ()) := by
  have hl := hc.l
  have hP := evenC_P (need := swN c j) (setup := gd c.2.1 (c.2.1.length - 1 - j) 0) (hold := gd c.2.2 (c.2.1.length - 1 - j) 0) (by rw [swN_len]; exact hc.n) (okN_bd.1 hok) (hc.b1 _ (by omega)) (hc.b2 _ (by omega))
  have h1 := impl_Case_best_eq hP hN
  have h2 := impl_Case_planFrom_eq hP (swS c j (swN c j)) hN
  have h3 := spec_l2Best_eq hP hN
  have h4 := spec_l2From_eq hP (swS c j (swN c j)) hN
  have hb := (bestK_is (evenC (swN c j) (gd c.2.1 (c.2.1.length - 1 - j) 0) (gd c.2.2 (c.2.1.length - 1 - j) 0))).2
  have e1 : (evenC (swN c j) (gd c.2.1 (c.2.1.length - 1 - j) 0) (gd c.2.2 (c.2.1.length - 1 - j) 0)).1 = swN c j := rfl
  rw [e1] at h2 h4
  rw [swN_cov] at h2
  refine ⟨?_, h2, ?_, h4⟩
  · rw [h1]; rw [hb]; rfl
  · rw [h3]; rw [hb]; rfl
noncomputable def swRows (c : Ch) (j : Nat) : Pl := (List.range c.2.1.length).map fun s => if c.2.1.length ≤ s + j then swN c (c.2.1.length - s) else []
noncomputable def swTail (c : Ch) (j : Nat) : Pl := (List.range j).map fun i => swN c (j - i)
theorem swRows_len (c : Ch) (j : Nat) : (swRows c j).length = c.2.1.length := map_range_len _ _
theorem swRows_gd (c : Ch) (j : Nat) {s : Nat} (h : s < c.2.1.length) : gd (swRows c j) s [] = if c.2.1.length ≤ s + j then swN c (c.2.1.length - s) else [] := gd_map_range _ [] h
theorem swRows_set {c : Ch} {j : Nat} (hj : j < c.2.1.length) : List.set (swRows c j) (c.2.1.length - 1 - j) (swN c (j + 1)) = swRows c (j + 1) := gdl_ext (by simp [swRows_len]) fun s hs => by
  simp only [List.length_set, swRows_len] at hs
  rw [gdl_set (by rw [swRows_len]; omega), swRows_gd c j hs, swRows_gd c (j + 1) hs]
  by_cases e : s = c.2.1.length - 1 - j
  · rw [if_pos e, if_pos (by omega), show c.2.1.length - s = j + 1 by omega]
  · rw [if_neg e]
    by_cases e2 : c.2.1.length ≤ s + j
    · rw [if_pos e2, if_pos (by omega)]
    · rw [if_neg e2, if_neg (by omega)]
theorem swRows_all (c : Ch) : swRows c c.2.1.length = swTail c c.2.1.length := by
  unfold swRows swTail
  apply List.map_congr_left
  intro s hs
  rw [List.mem_range] at hs
  rw [if_pos (by omega)]
theorem swTail_cons (c : Ch) (j : Nat) : [swN c (j + 1)] ++ swTail c j = swTail c (j + 1) := by
  simp only [swTail, List.range_succ_eq_map, List.map_cons, List.map_map, Nat.sub_zero, List.singleton_append]
  congr 1
  apply List.map_congr_left
  intro i _
  simp only [Function.comp]
  rw [show j + 1 - i.succ = j - i by omega]
noncomputable def swOk (c : Ch) : Bool := (List.range c.2.1.length).all fun j => okN (swN c j)
noncomputable def swOf (c : Ch) : Pl × Bool := bif swOk c then (swTail c c.2.1.length, true) else ([], false)
theorem spec_Stagewise_loop {N : Nat} {c : Ch} (hc : ChainP c) (hN : 4194304 ≤ N) : spec_StagewisePlan_L1 N N c.1 ((c.2.1.length : Int) - 1) c [] = some (swOf c, ()) := by
  have hn := hc.n
  have h3 := hc.s3
  have hl := hc.l
  have step : ∀ j, j < c.2.1.length → ∀ kx, spec_StagewisePlan_B1 N kx (swN c j) ((c.2.1.length : Int) - 1 - (j : Nat)) c (swTail c j) = bif okN (swN c j) then kx (swN c (j + 1)) ((c.2.1.length : Int) - 1 - ((j + 1 : Nat) : Int)) c (swTail c (j + 1)) else some (([], false), ()) := fun j hj kx => by
    have hs : (c.2.1.length : Int) - 1 - (j : Nat) = ((c.2.1.length - 1 - j : Nat) : Int) := by omega
    have hsm : SmC (evenC (swN c j) (gd c.2.1 (c.2.1.length - 1 - j) 0) (gd c.2.2 (c.2.1.length - 1 - j) 0)) := evenC_sm _ _ (by rw [swN_len]; omega)
    have hlen : (swTail c j).length = j := map_range_len _ _
    rw [hs]
    simp only [spec_StagewisePlan_B1, ile_eq, show (0 : Int) ≤ ((c.2.1.length - 1 - j : Nat) : Int) by omega, decide_true, cond_true, inB_true (show c.2.1.length - 1 - j < c.2.1.length by omega), inB_true (show c.2.1.length - 1 - j < c.2.2.length by omega), chk_true', Int.toNat_natCast, spec_l7Case_eq _ _ (show (swN c j).length ≤ 6 by rw [swN_len]; exact hn) hN, Option.bind_some, spec_l2Good_eq hsm hN, caseB_even (show (swN c j).length ≤ 6 by rw [swN_len]; exact hn) (hc.b1 _ (show c.2.1.length - 1 - j < c.2.1.length by omega)) (hc.b2 _ (show c.2.1.length - 1 - j < c.2.2.length by omega)), bif_not]
    by_cases hok : okN (swN c j) = true
    · obtain ⟨_, _, g3, g4⟩ := sw_stage hc hj hok hN
      simp only [hok, cond_true, g3, g4, Option.bind_some, hlen, chk_of (fitB_in (n := 1 + j) (b := 24) (by omega) (by omega)), swTail_cons]
      rw [isub_in (by omega) (by omega)]
      congr 1
      omega
    · have hok' : okN (swN c j) = false := by simpa using hok
      simp only [hok', cond_false]
  have e0 : (c.2.1.length : Int) - 1 = (c.2.1.length : Int) - 1 - ((0 : Nat) : Int) := by omega
  have et : ([] : Pl) = swTail c 0 := rfl
  rw [e0, et]
  rcases range_cases (fun j => okN (swN c j)) c.2.1.length with ⟨h1, h2⟩ | ⟨h1, j, h2, h4, h5⟩
  · have h1' : swOk c = true := h1
    rw [swOf, h1']
    refine spec_StagewisePlan_L1_run N (fun j => swN c j) (fun j => (c.2.1.length : Int) - 1 - (j : Nat)) (fun _ => c) (fun j => swTail c j) c.2.1.length (fun j hj kx => ?_) (fun kx => ?_) N (by omega)
    · rw [step j hj kx, h2 j hj]; rfl
    · simp only [spec_StagewisePlan_B1, spec_StagewisePlan_K1, ile_eq, show ¬ (0 : Int) ≤ (c.2.1.length : Int) - 1 - ((c.2.1.length : Nat) : Int) by omega, decide_false, cond_false, cond_true]
  · have h1' : swOk c = false := h1
    rw [swOf, h1']
    exact spec_StagewisePlan_L1_run N (fun j => swN c j) (fun j => (c.2.1.length : Int) - 1 - (j : Nat)) (fun _ => c) (fun j => swTail c j) j (fun i hi kx => by rw [step i (by omega) kx, h4 i hi]; rfl) (fun kx => by rw [step j h2 kx, h5]; rfl) N (by omega)
theorem impl_Stagewise_loop {N : Nat} {c : Ch} (hc : ChainP c) (hN : 4194304 ≤ N) : impl_StagewisePlan_L1 N N (c.2.1.length - 1) ((c.2.1.length : Int) - 2) c (swRows c 1) = some (swOf c, ()) := by
  have hn := hc.n
  have h3 := hc.s3
  have h1 := hc.s1
  have hl := hc.l
  have hok0 : okN (swN c 0) = true := okN_bd.2 hc.b0
  have step : ∀ i, i + 1 < c.2.1.length → ∀ kx, impl_StagewisePlan_B1 N kx (c.2.1.length - 1 - i) ((c.2.1.length : Int) - 2 - (i : Nat)) c (swRows c (i + 1)) = bif okN (swN c (i + 1)) then kx (c.2.1.length - 1 - (i + 1)) ((c.2.1.length : Int) - 2 - ((i + 1 : Nat) : Int)) c (swRows c (i + 1 + 1)) else some (([], false), ()) := fun i hi kx => by
    have hs : (c.2.1.length : Int) - 2 - (i : Nat) = ((c.2.1.length - 1 - (i + 1) : Nat) : Int) := by omega
    have e1 : gd (swRows c (i + 1)) (c.2.1.length - 1 - i) [] = swN c (i + 1) := by rw [swRows_gd c _ (by omega), if_pos (by omega), show c.2.1.length - (c.2.1.length - 1 - i) = i + 1 by omega]
    rw [hs]
    simp only [impl_StagewisePlan_B1, ile_eq, show (0 : Int) ≤ ((c.2.1.length - 1 - (i + 1) : Nat) : Int) by omega, decide_true, cond_true, e1, impl_allWithin_eq (show (swN c (i + 1)).length < 4194304 by rw [swN_len]; omega) hN, Option.bind_some, bif_not]
    show (bif okN (swN c (i + 1)) then _ else _) = _
    by_cases hok : okN (swN c (i + 1)) = true
    · obtain ⟨g1, g2, _, _⟩ := sw_stage hc hi hok hN
      simp only [hok, cond_true, inB_true (show c.2.1.length - 1 - (i + 1) < c.2.1.length by omega), inB_true (show c.2.1.length - 1 - (i + 1) < c.2.2.length by omega), chk_true', Int.toNat_natCast, impl_evenCase_eq _ _ (show (swN c (i + 1)).length ≤ 6 by rw [swN_len]; exact hn) hN, Option.bind_some, g1, g2, inB_true (show c.2.1.length - 1 - (i + 1) < (swRows c (i + 1)).length by rw [swRows_len]; omega), List.length_set, swRows_set hi]
      rw [isub_in (by omega) (by omega)]
      congr 1
      omega
    · have hok' : okN (swN c (i + 1)) = false := by simpa using hok
      simp only [hok', cond_false]
  have ea : c.2.1.length - 1 = c.2.1.length - 1 - 0 := by omega
  have eb : (c.2.1.length : Int) - 2 = (c.2.1.length : Int) - 2 - ((0 : Nat) : Int) := by omega
  rcases range_cases (fun j => okN (swN c j)) c.2.1.length with ⟨h1', h2⟩ | ⟨h1', j, h2, h4, h5⟩
  · have h1'' : swOk c = true := h1'
    rw [swOf, h1'', ea, eb]
    refine impl_StagewisePlan_L1_run N (fun i => c.2.1.length - 1 - i) (fun i => (c.2.1.length : Int) - 2 - (i : Nat)) (fun _ => c) (fun i => swRows c (i + 1)) (c.2.1.length - 1) (fun i hi kx => ?_) (fun kx => ?_) N (by omega)
    · rw [step i (by omega) kx, h2 (i + 1) (by omega)]; rfl
    · simp only [impl_StagewisePlan_B1, ile_eq, show ¬ (0 : Int) ≤ (c.2.1.length : Int) - 2 - ((c.2.1.length - 1 : Nat) : Int) by omega, decide_false, cond_false, cond_true, show c.2.1.length - 1 + 1 = c.2.1.length by omega, swRows_all]
  · have h1'' : swOk c = false := h1'
    have hj0 : j ≠ 0 := fun e => by rw [e, hok0] at h5; cases h5
    obtain ⟨j, rfl⟩ : ∃ q, j = q + 1 := ⟨j - 1, by omega⟩
    rw [swOf, h1'', ea, eb]
    exact impl_StagewisePlan_L1_run N (fun i => c.2.1.length - 1 - i) (fun i => (c.2.1.length : Int) - 2 - (i : Nat)) (fun _ => c) (fun i => swRows c (i + 1)) j (fun i hi kx => by rw [step i (by omega) kx, h4 (i + 1) (by omega)]; rfl) (fun kx => by rw [step j h2 kx, h5]; rfl) N (by omega)
noncomputable def stwOf (c : Ch) : Pl × Bool := bif chainB c then swOf c else ([], false)
theorem spec_StagewisePlan_eq {N : Nat} {c : Ch} (hs : SmCh c) (hN : 4194304 ≤ N) : spec_StagewisePlan N c = some (stwOf c, ()) := by
  simp only [spec_StagewisePlan, spec_l7Good_eq hs hN, Option.bind_some, bif_not, stwOf]
  cases h : chainB c with
  | false => rfl
  | true =>
    have hc := chainP h
    have h3 := hc.s3
    simp only [cond_true, len_eq]
    rw [isub_in (by omega) (by omega), spec_Stagewise_loop hc hN]
theorem impl_StagewisePlan_eq {N : Nat} {c : Ch} (hs : SmCh c) (hN : 4194304 ≤ N) : impl_StagewisePlan N c = some (stwOf c, ()) := by
  simp only [impl_StagewisePlan, impl_IsChain_eq hs hN, Option.bind_some, bif_not, stwOf]
  cases h : chainB c with
  | false => rfl
  | true =>
    have hc := chainP h
    have hn := hc.n
    have h3 := hc.s3
    have h1 := hc.s1
    have hl := hc.l
    have hok0 : okN (swN c 0) = true := okN_bd.2 hc.b0
    have hok1 : c.1.all (inRg 0 20) = true := hok0
    have ei : isub .i64 ((c.2.1.length : Nat) : Int) 1 = ((c.2.1.length - 1 - 0 : Nat) : Int) := by rw [isub_in (by omega) (by omega)]; omega
    have er : List.replicate c.2.1.length ([] : List Int) = swRows c 0 := gdl_ext (by simp [swRows_len]) fun s hs' => by
      simp only [List.length_replicate] at hs'
      rw [swRows_gd _ _ hs', if_neg (by omega)]
      simp [gd, List.getD_eq_getElem?_getD, hs']
    obtain ⟨g1, g2, _, _⟩ := sw_stage hc (j := 0) (by omega) hok0 hN
    have e0 : swN c 0 = c.1 := rfl
    have g1' : impl_Case_best N (evenC c.1 (gd c.2.1 (c.2.1.length - 1 - 0) 0) (gd c.2.2 (c.2.1.length - 1 - 0) 0)) = _ := g1
    have g2' : impl_Case_planFrom N (evenC c.1 (gd c.2.1 (c.2.1.length - 1 - 0) 0) (gd c.2.2 (c.2.1.length - 1 - 0) 0)) (pns (swS c 0 (swN c 0)) (swN c 0).length) = _ := g2
    simp only [cond_true, len_eq, chk_of (mkB_in (n := c.2.1.length) (b := 24) (by omega) (by omega)), Int.toNat_natCast, List.length_replicate, ei, ile_eq, show (0 : Int) ≤ ((c.2.1.length - 1 - 0 : Nat) : Int) by omega, decide_true, impl_allWithin_eq hs.s0 hN, Option.bind_some, hok1, Bool.not_true, cond_false, inB_true (show c.2.1.length - 1 - 0 < c.2.1.length by omega), inB_true (show c.2.1.length - 1 - 0 < c.2.2.length by omega), chk_true', impl_evenCase_eq _ _ hn hN, g1', g2', er, swRows_len, List.length_set, swRows_set (show 0 < c.2.1.length by omega)]
    rw [isub_in (by omega) (by omega)]
    have hloop := impl_Stagewise_loop hc hN
    rw [show ((c.2.1.length - 1 - 0 : Nat) : Int) - 1 = (c.2.1.length : Int) - 2 by omega, Nat.sub_zero]
    exact hloop
theorem laws_FnExactStagewisePlan_law (c : Ch) (h : RngCh c) : ∃ N, laws_FnExactStagewisePlan N c = some (true, ()) := by
  refine ⟨4194304, ?_⟩
  simp only [laws_FnExactStagewisePlan, ilt_eq, ine_eq]
  obtain ⟨r1, e1, q1⟩ := laws_szChain_eq 4194304 h (show (0 : Int) ≤ 1048576 by omega) (by omega)
  rcases q1 with q1 | ⟨q1, _, hs⟩
  · simp [e1, q1]
  · have hn := Nat.le_refl 4194304
    have n0 : ¬ r1 < 0 := by omega
    have hl : TinyP (stwOf c).1 := by
      unfold stwOf
      cases hb : chainB c with
      | false => exact ⟨by simp, fun s hs => by simp at hs⟩
      | true =>
        have hc := chainP hb
        unfold swOf
        cases swOk c with
        | false => exact ⟨by simp, fun s hs => by simp at hs⟩
        | true =>
          have hlen : (swTail c c.2.1.length).length = c.2.1.length := map_range_len _ _
          refine ⟨by simp only [cond_true]; rw [hlen]; have := hc.s3; omega, fun s hs' => ?_⟩
          simp only [cond_true] at hs' ⊢
          rw [hlen] at hs'
          have : gd (swTail c c.2.1.length) s [] = swN c (c.2.1.length - s) := gd_map_range _ [] hs'
          rw [this, swN_len]
          have := hc.n; omega
    have hi := impl_StagewisePlan_eq hs hn
    have hsp := spec_StagewisePlan_eq hs hn
    obtain ⟨l, b⟩ : ∃ p : Pl × Bool, p = stwOf c := ⟨_, rfl⟩
    rw [← b] at hi hsp hl
    obtain ⟨r3, c3, e3, b3, _⟩ := markChain_run (N := 4194304) (k := 1) hs (by omega) (by omega) hn
    have n3 : ¬ r3 < 0 := by omega
    have hmk := laws_markIntSS_eq (N := 4194304) (k := 1) hl (by omega) (by omega) hn
    have hhd := laws_heldIntSS_eq (N := 4194304) (k := 1) hl (by omega) (by omega) hn
    have n4 : ¬ (1 : Int) + (preN l.1 l.1.length : Nat) < 0 := by omega
    simp [e1, n0, laws_toChain_eq hs hn, hi, hsp, laws_eqChain_refl hs hn, laws_eqIntSS_refl hl.sm hn, e3, n3, hmk, hhd, n4, Go.Rx.beq]
end Go.Rx.Px
