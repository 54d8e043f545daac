/- This text proves, of the plain functions behind FnExactIsPriceProof, that the law answers true; no condition beyond the ranges that its arguments have. -/
import Derived.Test.YtlfcghpjpjggfaaPxFnExactIsPriceProof
set_option linter.unusedVariables false
set_option linter.unusedSimpArgs false
namespace Go.Rx
theorem wrap_in {n : Int} (h1 : -9223372036854775808 ≤ n) (h2 : n < 9223372036854775808) : IntKind.i64.wrap n = n := by
  simp [IntKind.wrap, IntKind.bits, IntKind.signed]
  omega
theorem iadd_in {a b : Int} (h1 : -9223372036854775808 ≤ a + b) (h2 : a + b < 9223372036854775808) : iadd .i64 a b = a + b := wrap_in h1 h2
theorem isub_in {a b : Int} (h1 : -9223372036854775808 ≤ a - b) (h2 : a - b < 9223372036854775808) : isub .i64 a b = a - b := wrap_in h1 h2
theorem imul_in {a b : Int} (h1 : -9223372036854775808 ≤ a * b) (h2 : a * b < 9223372036854775808) : imul .i64 a b = a * b := wrap_in h1 h2
theorem iadd_nat {i : Nat} (h : i < 4611686018427387904) : iadd .i64 (i : Int) 1 = ((i + 1 : Nat) : Int) := by rw [iadd_in (by omega) (by omega)]; omega
@[simp] theorem ilt_eq (a b : Int) : ilt a b = decide (a < b) := rfl
@[simp] theorem ile_eq (a b : Int) : ile a b = decide (a ≤ b) := rfl
@[simp] theorem ieq_eq (a b : Int) : ieq a b = decide (a = b) := rfl
@[simp] theorem ine_eq (a b : Int) : ine a b = !decide (a = b) := rfl
@[simp] theorem len_eq {α : Type} (xs : List α) : len xs = (xs.length : Int) := rfl
@[simp] theorem beq_eq (a b : Bool) : Go.Rx.beq a b = (a == b) := rfl
theorem inB_nat (i n : Nat) : inB (i : Int) n = decide (i < n) := by simp [inB]
theorem inB_true {i n : Nat} (h : i < n) : inB (i : Int) n = true := by simp [inB_nat, h]
theorem cutB_in {l h : Int} {n : Nat} (h0 : 0 ≤ l) (h1 : l ≤ h) (h2 : h ≤ n) : cutB l h n = true := by simp [cutB, h0, h1, h2]
theorem fitB_in {n b : Nat} (h : n < 4194304) (hb : b ≤ 1024) : fitB n b = true := by
  have : n * b ≤ 4194304 * 1024 := Nat.mul_le_mul (by omega) hb
  simp only [fitB, Bool.and_eq_true, decide_eq_true_eq]; omega
theorem mkB_in {n b : Nat} (h : n < 4194304) (hb : b ≤ 1024) : mkB (n : Int) b = true := by
  have : n * b ≤ 4194304 * 1024 := Nat.mul_le_mul (by omega) hb
  simp only [mkB, Bool.and_eq_true, decide_eq_true_eq, Int.toNat_natCast]; omega
@[simp] theorem chk_true' {α : Type} (x : Option α) : chk true x = x := rfl
@[simp] theorem chk_false {α : Type} (x : Option α) : chk false x = none := rfl
theorem all_cases {α : Type} (p : α → Bool) (d : α) : ∀ (xs : List α), (xs.all p = true ∧ ∀ i, i < xs.length → p (gd xs i d) = true) ∨ (xs.all p = false ∧ ∃ j, j < xs.length ∧ (∀ i, i < j → p (gd xs i d) = true) ∧ p (gd xs j d) = false)
  | [] => .inl ⟨rfl, fun i h => by simp at h⟩
  | a :: xs => by
    cases ha : p a with
    | false => exact .inr ⟨by simp [ha], 0, by simp, fun i h => by omega, by simpa [gd] using ha⟩
    | true =>
      rcases all_cases p d xs with ⟨h, hall⟩ | ⟨h, j, hj, hb, hat⟩
      · refine .inl ⟨by simp [ha] at h ⊢; exact h, fun i hi => ?_⟩
        cases i with
        | zero => simpa [gd] using ha
        | succ i => simpa [gd] using hall i (by simpa using hi)
      · refine .inr ⟨by rw [List.all_cons, ha, h]; rfl, j + 1, by simpa using hj, fun i hi => ?_, by simpa [gd] using hat⟩
        cases i with
        | zero => simpa [gd] using ha
        | succ i => simpa [gd] using hb i (by omega)
theorem first_cases (p : Nat → Bool) : ∀ (n : Nat), (∀ i, i < n → p i = true) ∨ (∃ j, j < n ∧ (∀ i, i < j → p i = true) ∧ p j = false)
  | 0 => .inl fun i h => by omega
  | n + 1 => by
    rcases first_cases p n with h | ⟨j, hj, hb, hat⟩
    · cases hn : p n with
      | true => exact .inl fun i hi => by by_cases e : i = n; exact e ▸ hn; exact h i (by omega)
      | false => exact .inr ⟨n, by omega, h, hn⟩
    · exact .inr ⟨j, by omega, hb, hat⟩
theorem take_succ {α : Type} (xs : List α) (i : Nat) (d : α) (h : i < xs.length) : xs.take (i + 1) = xs.take i ++ [gd xs i d] := by
  rw [List.take_succ_eq_append_getElem h]; simp [gd, List.getD_eq_getElem?_getD, h]
theorem mem_getD {α : Type} {xs : List α} {i : Nat} (d : α) (h : i < xs.length) : gd xs i d ∈ xs := by
  rw [gd, List.getD_eq_getElem?_getD, List.getElem?_eq_getElem h]; simp
def inRg (lo hi x : Int) : Bool := decide (lo ≤ x) && decide (x ≤ hi)
def bd (b : Int) (xs : List Int) : Prop := ∀ i, i < xs.length → 0 ≤ gd xs i 0 ∧ gd xs i 0 ≤ b
theorem all_gd {α : Type} {p : α → Bool} {xs : List α} (d : α) (h : xs.all p = true) : ∀ i, i < xs.length → p (gd xs i d) = true := fun _ hi => List.all_eq_true.1 h _ (mem_getD d hi)
theorem bd_of {b : Int} {xs : List Int} (h : xs.all (inRg 0 b) = true) : bd b xs := fun i hi => by
  have := all_gd 0 h i hi
  simpa [inRg] using this
theorem bd_iff {b : Int} {xs : List Int} : xs.all (inRg 0 b) = true ↔ bd b xs := by
  refine ⟨bd_of, fun h => ?_⟩
  rcases all_cases (inRg 0 b) 0 xs with ⟨h1, _⟩ | ⟨_, j, hj, _, hat⟩
  · exact h1
  · have := h j hj
    simp [inRg, this] at hat
def psum (xs : List Int) (i : Nat) : Int := (xs.take i).sum
theorem psum_zero (xs : List Int) : psum xs 0 = 0 := by simp [psum]
theorem psum_succ {xs : List Int} {i : Nat} (h : i < xs.length) : psum xs (i + 1) = psum xs i + gd xs i 0 := by
  unfold psum; rw [take_succ xs i 0 h]; simp
theorem psum_all (xs : List Int) : psum xs xs.length = xs.sum := by simp [psum]
theorem psum_bd {b : Int} {xs : List Int} (h : bd b xs) : ∀ i, i ≤ xs.length → 0 ≤ psum xs i ∧ psum xs i ≤ b * i
  | 0, _ => by simp [psum_zero]
  | i + 1, hi => by
    have h1 := psum_bd h i (by omega)
    have h2 := h i (by omega)
    rw [psum_succ (by omega)]
    have : b * ((i + 1 : Nat) : Int) = b * i + b := by rw [Int.natCast_add, Int.mul_add]; simp
    omega
theorem psum_mono {b : Int} {xs : List Int} (h : bd b xs) {i : Nat} : ∀ {j : Nat}, i ≤ j → j ≤ xs.length → psum xs i ≤ psum xs j
  | 0, hij, _ => by obtain rfl : i = 0 := by omega
                    omega
  | j + 1, hij, hj => by
    by_cases e : i = j + 1
    · rw [e]; omega
    · have := psum_mono h (show i ≤ j by omega) (by omega)
      have h2 := h j (by omega)
      rw [psum_succ (by omega)]; omega
theorem bif_and (a b : Bool) : (bif a then some (b, ()) else some (false, ())) = some (a && b, ()) := by cases a <;> rfl
theorem bif_not {α : Type} (a : Bool) (x y : α) : (bif !a then x else y) = bif a then y else x := by cases a <;> rfl
def RngI (xs : List Int) : Prop := xs.length ≤ maxLen ∧ ∀ i, i < xs.length → (Lit.int .i64 (xs.getD i 0)).wf = true
def RngZ (x : Int) : Prop := (Lit.int .i64 x).wf = true
theorem RngZ.bd {x : Int} (h : RngZ x) : -9223372036854775808 ≤ x ∧ x ≤ 9223372036854775807 := by
  simpa [RngZ, Lit.wf, IntKind.min, IntKind.max, IntKind.signed, IntKind.bits] using h
theorem RngI.bd {xs : List Int} (h : RngI xs) : ∀ i, i < xs.length → -9223372036854775808 ≤ gd xs i 0 ∧ gd xs i 0 ≤ 9223372036854775807 := fun i hi => RngZ.bd (h.2 i hi)
end Go.Rx
namespace Go.Rx.Px
abbrev Cs := List Int × List Int × List Int × List Int
theorem impl_within_eq (N : Nat) (x lo hi : Int) : impl_within N x lo hi = some (inRg lo hi x, ()) := by
  simp only [impl_within, ile_eq, inRg]; by_cases h : lo ≤ x <;> simp [h]
theorem spec_l1In_eq (N : Nat) (x lo hi : Int) : spec_l1In N x lo hi = some (inRg lo hi x, ()) := by
  simp only [spec_l1In, ile_eq, inRg]; by_cases h : lo ≤ x <;> simp [h]
theorem impl_allWithin_eq {N : Nat} {xs : List Int} {lo hi : Int} (hl : xs.length < 4194304) (hN : 4194304 ≤ N) : impl_allWithin N xs lo hi = some (xs.all (inRg lo hi), ()) := by
  unfold impl_allWithin
  rcases all_cases (inRg lo hi) 0 xs with ⟨h, hall⟩ | ⟨h, j, hj, hbef, hat⟩
  · refine impl_allWithin_L1_run N (fun _ => lo) (fun _ => hi) (fun _ => xs) (fun _ => xs.length) (fun i => i) xs.length (fun i hi kx => ?_) (fun kx => ?_) N (by omega)
    · simp [impl_allWithin_B1, hi, inB_true hi, impl_within_eq, hall i hi, iadd_nat (show i < 4611686018427387904 by omega)]
    · simp [impl_allWithin_B1, impl_allWithin_K1, h]
  · refine impl_allWithin_L1_run N (fun _ => lo) (fun _ => hi) (fun _ => xs) (fun _ => xs.length) (fun i => i) j (fun i hi kx => ?_) (fun kx => ?_) N (by omega)
    · simp [impl_allWithin_B1, show i < xs.length by omega, inB_true (show i < xs.length by omega), impl_within_eq, hbef i hi, iadd_nat (show i < 4611686018427387904 by omega)]
    · simp [impl_allWithin_B1, hj, inB_true hj, impl_within_eq, hat, h]
theorem spec_l2Row_eq {N : Nat} {xs : List Int} {n hi : Int} (hl : xs.length < 4194304) (hN : 4194304 ≤ N) : spec_l2Row N xs n hi = some (xs.all (inRg 0 hi) && decide ((xs.length : Int) = n), ()) := by
  unfold spec_l2Row
  rcases all_cases (inRg 0 hi) 0 xs with ⟨h, hall⟩ | ⟨h, j, hj, hbef, hat⟩
  · refine spec_l2Row_L1_run N (fun _ => xs) (fun _ => n) (fun _ => hi) (fun i => i) xs.length (fun i hi kx => ?_) (fun kx => ?_) N (by omega)
    · simp [spec_l2Row_B1, hi, inB_true hi, spec_l1In_eq, hall i hi, iadd_nat (show i < 4611686018427387904 by omega)]
    · simp [spec_l2Row_B1, spec_l2Row_K1, h]
  · refine spec_l2Row_L1_run N (fun _ => xs) (fun _ => n) (fun _ => hi) (fun i => i) j (fun i hi kx => ?_) (fun kx => ?_) N (by omega)
    · simp [spec_l2Row_B1, show i < xs.length by omega, inB_true (show i < xs.length by omega), spec_l1In_eq, hbef i hi, iadd_nat (show i < 4611686018427387904 by omega)]
    · simp [spec_l2Row_B1, hj, inB_true hj, spec_l1In_eq, hat, h]
def caseB (c : Cs) : Bool := decide (c.1.length ≤ 8) && (decide (c.2.1.length = c.1.length) && (decide (c.2.2.1.length = c.1.length) && (decide (c.2.2.2.length = c.1.length) && (c.1.all (inRg 0 20) && (c.2.1.all (inRg 0 99) && (c.2.2.1.all (inRg 0 9) && c.2.2.2.all (inRg 0 9)))))))
structure CaseP (c : Cs) : Prop where
  n : c.1.length ≤ 8
  l1 : c.2.1.length = c.1.length
  l2 : c.2.2.1.length = c.1.length
  l3 : c.2.2.2.length = c.1.length
  b0 : bd 20 c.1
  b1 : bd 99 c.2.1
  b2 : bd 9 c.2.2.1
  b3 : bd 9 c.2.2.2
theorem caseB_iff {c : Cs} : caseB c = true ↔ CaseP c := by
  simp only [caseB, Bool.and_eq_true, decide_eq_true_eq, bd_iff]
  exact ⟨fun ⟨a, b, c, d, e, f, g, h⟩ => ⟨a, b, c, d, e, f, g, h⟩, fun ⟨a, b, c, d, e, f, g, h⟩ => ⟨a, b, c, d, e, f, g, h⟩⟩
structure SmC (c : Cs) : Prop where
  s0 : c.1.length < 4194304
  s1 : c.2.1.length < 4194304
  s2 : c.2.2.1.length < 4194304
  s3 : c.2.2.2.length < 4194304
theorem impl_IsCase_eq {N : Nat} {c : Cs} (hc : SmC c) (hN : 4194304 ≤ N) : impl_IsCase N c = some (caseB c, ()) := by
  have e0 : ile (len c.1) 8 = decide (c.1.length ≤ 8) := by simp only [ile_eq, len_eq, decide_eq_decide]; omega
  have e1 : ∀ a b : List Int, ieq (len a) (len b) = decide (a.length = b.length) := fun a b => by simp only [ieq_eq, len_eq, decide_eq_decide]; omega
  simp only [impl_IsCase, impl_allWithin_eq hc.s0 hN, impl_allWithin_eq hc.s1 hN, impl_allWithin_eq hc.s2 hN, impl_allWithin_eq hc.s3 hN, caseB, e0, e1, Option.bind_some, bif_and]
theorem spec_l2Good_eq {N : Nat} {c : Cs} (hc : SmC c) (hN : 4194304 ≤ N) : spec_l2Good N c = some (caseB c, ()) := by
  have e0 : ile (c.1.length : Int) 8 = decide (c.1.length ≤ 8) := by simp only [ile_eq, decide_eq_decide]; omega
  simp only [spec_l2Good, len_eq, spec_l2Row_eq hc.s0 hN, spec_l2Row_eq hc.s1 hN, spec_l2Row_eq hc.s2 hN, spec_l2Row_eq hc.s3 hN, caseB, e0, Option.bind_some, bif_and]
  congr 2
  rw [Bool.eq_iff_iff]
  simp only [Bool.and_eq_true, decide_eq_true_eq]
  constructor
  · rintro ⟨h1, ⟨h2, h3⟩, ⟨h4, h5⟩, ⟨h6, h7⟩, h8, h9⟩; exact ⟨h1, by omega, by omega, by omega, h2, h4, h6, h8⟩
  · rintro ⟨h1, h2, h3, h4, h5, h6, h7, h8⟩; exact ⟨h1, ⟨h5, trivial⟩, ⟨h6, by omega⟩, ⟨h7, by omega⟩, h8, by omega⟩
theorem impl_total_eq {N : Nat} {xs : List Int} {b : Int} (hb : bd b xs) (hb1 : b ≤ 1000000) (hl : xs.length < 4194304) (hN : 4194304 ≤ N) : impl_total N xs = some (xs.sum, ()) := by
  have hp : ∀ i, i ≤ xs.length → 0 ≤ psum xs i ∧ psum xs i ≤ 1000000 * i := psum_bd (fun i hi => ⟨(hb i hi).1, by have := (hb i hi).2; omega⟩)
  refine impl_total_L1_run N (psum xs) (fun _ => xs) (fun _ => xs.length) (fun i => i) xs.length (fun i hi kx => ?_) (fun kx => ?_) N (by omega)
  · have h1 := hp i (by omega)
    have h2 := hb i hi
    simp [impl_total_B1, hi, inB_true hi, iadd_nat (show i < 4611686018427387904 by omega), iadd_in (show -9223372036854775808 ≤ psum xs i + gd xs i 0 by omega) (by omega), psum_succ hi]
  · simp [impl_total_B1, impl_total_K1, psum_all]
def stockAt (plan need : List Int) (t : Nat) : Int := psum plan t - psum need t
abbrev RngC (c : Cs) : Prop := RngI c.1 ∧ RngI c.2.1 ∧ RngI c.2.2.1 ∧ RngI c.2.2.2
theorem laws_toIntS_eq {N : Nat} {a : List Int} (hl : a.length < 4194304) (hN : 4194304 ≤ N) : laws_toIntS N a = some (a, ()) := by
  simp only [laws_toIntS, len_eq, chk_of (mkB_in hl (show 8 ≤ 1024 by omega)), Int.toNat_natCast]
  refine laws_toIntS_L1_run N (fun _ => a) (fun i => i) (fun i => a.take i ++ List.replicate (a.length - i) 0) a.length (fun i hi kx => ?_) (fun kx => ?_) N (by omega)
  · simp only [laws_toIntS_B1, ilt_eq, len_eq, Int.ofNat_lt, hi, decide_true, cond_true, inB_true hi, chk_true', Int.toNat_natCast, iadd_nat (show i < 4611686018427387904 by omega)]
    rw [chk_of (inB_true (by simp; omega))]
    congr 1
    rw [take_succ a i 0 hi, List.set_append, if_neg (by simp; omega), List.append_assoc]
    congr 1
    rw [show a.length - i = (a.length - (i + 1)) + 1 by omega, List.replicate_succ]
    simp [Nat.min_eq_left (Nat.le_of_lt hi)]
  · simp [laws_toIntS_B1, laws_toIntS_K1]
theorem laws_eqIntS_eq {N : Nat} {a b : List Int} (hl : a.length < 4194304) (hN : 4194304 ≤ N) : laws_eqIntS N a b = some (decide (a = b), ()) := by
  by_cases hn : a.length = b.length
  · simp only [laws_eqIntS, ine_eq, len_eq, hn, decide_true, bif_not, cond_true]
    rcases first_cases (fun i => decide (gd a i 0 = gd b i 0)) a.length with h | ⟨j, hj, hb, hat⟩
    · have he : a = b := by
        refine List.ext_getElem hn fun i h1 h2 => ?_
        have := h i h1
        simpa [gd, h1, h2] using this
      refine laws_eqIntS_L1_run N (fun _ => a) (fun _ => b) (fun i => i) a.length (fun i hi kx => ?_) (fun kx => ?_) N (by omega)
      · have h3 : gd a i 0 = gd b i 0 := by simpa using h i hi
        simp [laws_eqIntS_B1, hi, inB_true hi, inB_true (show i < b.length by omega), h3, iadd_nat (show i < 4611686018427387904 by omega)]
      · simp [laws_eqIntS_B1, laws_eqIntS_K1, he]
    · have hat' : gd a j 0 ≠ gd b j 0 := by simpa using hat
      have he : a ≠ b := fun e => hat' (by rw [e])
      refine laws_eqIntS_L1_run N (fun _ => a) (fun _ => b) (fun i => i) j (fun i hi kx => ?_) (fun kx => ?_) N (by omega)
      · have h3 : gd a i 0 = gd b i 0 := by simpa using hb i hi
        simp [laws_eqIntS_B1, show i < a.length by omega, inB_true (show i < a.length by omega), inB_true (show i < b.length by omega), h3, iadd_nat (show i < 4611686018427387904 by omega)]
      · simp [laws_eqIntS_B1, hj, inB_true hj, inB_true (show j < b.length by omega), hat', he]
  · have he : a ≠ b := fun e => hn (by rw [e])
    have : decide ((a.length : Int) = b.length) = false := by simp; omega
    simp [laws_eqIntS, this, he]
theorem laws_toCase_eq {N : Nat} {c : Cs} (h : SmC c) (hN : 4194304 ≤ N) : laws_toCase N c = some (c, ()) := by
  simp only [laws_toCase, laws_toIntS_eq h.s0 hN, laws_toIntS_eq h.s1 hN, laws_toIntS_eq h.s2 hN, laws_toIntS_eq h.s3 hN, Option.bind_some]
theorem laws_eqCase_refl {N : Nat} {c : Cs} (h : SmC c) (hN : 4194304 ≤ N) : laws_eqCase N c c = some (true, ()) := by
  simp [laws_eqCase, laws_eqIntS_eq h.s0 hN, laws_eqIntS_eq h.s1 hN, laws_eqIntS_eq h.s2 hN, laws_eqIntS_eq h.s3 hN]
theorem laws_szIntS_eq (N : Nat) {a : List Int} {left : Int} (h : a.length ≤ maxLen) (h1 : 0 ≤ left) (h2 : left ≤ 1048576) : ∃ r, laws_szIntS N a left = some (r, ()) ∧ (r < 0 ∨ 0 ≤ r ∧ r ≤ left ∧ (a.length : Int) ≤ left) := by
  unfold maxLen at h
  simp only [laws_szIntS, len_eq, ilt_eq, isub_in (show -9223372036854775808 ≤ left - a.length by omega) (by omega)]
  by_cases h3 : left - a.length < 0
  · exact ⟨-1, by simp [h3], .inl (by omega)⟩
  · exact ⟨left - a.length, by simp [h3], .inr (by omega)⟩
theorem laws_szCase_eq (N : Nat) {c : Cs} {left : Int} (h : RngC c) (h1 : 0 ≤ left) (h2 : left ≤ 1048576) : ∃ r, laws_szCase N c left = some (r, ()) ∧ (r < 0 ∨ 0 ≤ r ∧ r ≤ left ∧ SmC c) := by
  simp only [laws_szCase, ilt_eq]
  obtain ⟨r1, e1, q1⟩ := laws_szIntS_eq N h.1.1 h1 h2
  rcases q1 with q1 | q1
  · exact ⟨-1, by simp [e1, q1], .inl (by omega)⟩
  obtain ⟨r2, e2, q2⟩ := laws_szIntS_eq N h.2.1.1 q1.1 (show r1 ≤ 1048576 by omega)
  have n1 : ¬ r1 < 0 := by omega
  rcases q2 with q2 | q2
  · exact ⟨-1, by simp [e1, e2, q2, n1], .inl (by omega)⟩
  obtain ⟨r3, e3, q3⟩ := laws_szIntS_eq N h.2.2.1.1 q2.1 (show r2 ≤ 1048576 by omega)
  have n2 : ¬ r2 < 0 := by omega
  rcases q3 with q3 | q3
  · exact ⟨-1, by simp [e1, e2, e3, q3, n1, n2], .inl (by omega)⟩
  obtain ⟨r4, e4, q4⟩ := laws_szIntS_eq N h.2.2.2.1 q3.1 (show r3 ≤ 1048576 by omega)
  have n3 : ¬ r3 < 0 := by omega
  rcases q4 with q4 | q4
  · exact ⟨-1, by simp [e1, e2, e3, e4, q4, n1, n2, n3], .inl (by omega)⟩
  have n4 : ¬ r4 < 0 := by omega
  exact ⟨r4, by simp [e1, e2, e3, e4, n1, n2, n3, n4], .inr ⟨by omega, by omega, by omega, by omega, by omega, by omega⟩⟩
end Go.Rx.Px
namespace Go.Rx
def rsum (f : Nat → Int) : Nat → Int
  | 0 => 0
  | n + 1 => rsum f n + f n
theorem rsum_bd {f : Nat → Int} {lo hi : Int} : ∀ {n : Nat}, (∀ i, i < n → lo ≤ f i ∧ f i ≤ hi) → lo * n ≤ rsum f n ∧ rsum f n ≤ hi * n
  | 0, _ => by simp [rsum]
  | n + 1, h => by
    have h1 := rsum_bd (n := n) (fun i hi => h i (by omega))
    have h2 := h n (by omega)
    have e : ∀ x : Int, x * ((n + 1 : Nat) : Int) = x * n + x := fun x => by rw [Int.natCast_add, Int.mul_add]; simp
    simp only [rsum, e]; omega
theorem mul_bd {a b A B : Int} (ha : 0 ≤ a ∧ a ≤ A) (hb : -B ≤ b ∧ b ≤ B) : -(A * B) ≤ a * b ∧ a * b ≤ A * B := by
  have hB : 0 ≤ B := by omega
  have h1 : a * b ≤ a * B := Int.mul_le_mul_of_nonneg_left hb.2 ha.1
  have h2 : a * (-B) ≤ a * b := Int.mul_le_mul_of_nonneg_left hb.1 ha.1
  have h3 : a * B ≤ A * B := Int.mul_le_mul_of_nonneg_right ha.2 hB
  rw [Int.mul_neg] at h2
  omega
theorem gd_map_range {α : Type} (f : Nat → α) (d : α) {n i : Nat} (h : i < n) : gd ((List.range n).map f) i d = f i := by
  simp [gd, List.getD_eq_getElem?_getD, h]
theorem map_range_succ {α : Type} (f : Nat → α) (n : Nat) : (List.range (n + 1)).map f = (List.range n).map f ++ [f n] := by simp [List.range_succ]
theorem rangeB {p : Nat → Bool} {n : Nat} : (List.range n).all p = true ↔ ∀ i, i < n → p i = true := by simp
end Go.Rx
namespace Go.Rx.Px
def ifpos (p s : Int) : Int := if 0 < p then s else 0
theorem ifpos_bd {p s b : Int} (h : 0 ≤ s ∧ s ≤ b) : 0 ≤ ifpos p s ∧ ifpos p s ≤ b := by unfold ifpos; split <;> omega
structure CellBd (c : Cs) (plan : List Int) (t : Nat) : Prop where
  s : 0 ≤ gd c.2.1 t 0 ∧ gd c.2.1 t 0 ≤ 99
  u : 0 ≤ gd c.2.2.1 t 0 ∧ gd c.2.2.1 t 0 ≤ 9
  h : 0 ≤ gd c.2.2.2 t 0 ∧ gd c.2.2.2 t 0 ≤ 9
  p : 0 ≤ gd plan t 0 ∧ gd plan t 0 ≤ 200
  up : 0 ≤ gd c.2.2.1 t 0 * gd plan t 0 ∧ gd c.2.2.1 t 0 * gd plan t 0 ≤ 1800
theorem cellBd {c : Cs} {plan : List Int} (h : CaseP c) (hp : bd 200 plan) {t : Nat} (ht : t < c.1.length) (hl : t < plan.length) : CellBd c plan t := by
  have h1 := h.b1 t (by have := h.l1; omega)
  have h2 := h.b2 t (by have := h.l2; omega)
  have h3 := h.b3 t (by have := h.l3; omega)
  have h4 := hp t hl
  refine ⟨h1, h2, h3, h4, Int.mul_nonneg h2.1 h4.1, ?_⟩
  have := (mul_bd (A := 9) (B := 200) h2 (show -200 ≤ gd plan t 0 ∧ gd plan t 0 ≤ 200 by omega)).2
  omega
structure PlanP (c : Cs) (plan : List Int) : Prop where
  cs : CaseP c
  n : plan.length = c.1.length
  b : bd 160 plan
theorem PlanP.b200 {c : Cs} {plan : List Int} (h : PlanP c plan) : bd 200 plan := fun i hi => by have := h.b i hi; omega
theorem PlanP.st {c : Cs} {plan : List Int} (h : PlanP c plan) {t : Nat} (ht : t ≤ plan.length) : -1600 ≤ stockAt plan c.1 t ∧ stockAt plan c.1 t ≤ 1600 := by
  have h1 := psum_bd h.b200 t ht
  have h2 := psum_bd h.cs.b0 t (by have := h.n; omega)
  have h3 := h.cs.n
  have h4 := h.n
  simp only [stockAt]; omega
def stocksL (plan need : List Int) (n : Nat) : List Int := (List.range n).map fun i => stockAt plan need (i + 1)
theorem stocksL_len (plan need : List Int) (n : Nat) : (stocksL plan need n).length = n := by simp [stocksL]
theorem stocksL_gd (plan need : List Int) {n i : Nat} (h : i < n) : gd (stocksL plan need n) i 0 = stockAt plan need (i + 1) := gd_map_range _ _ h
theorem stocksL_succ (plan need : List Int) (n : Nat) : stocksL plan need (n + 1) = stocksL plan need n ++ [stockAt plan need (n + 1)] := map_range_succ _ _
theorem stockAt_zero (plan need : List Int) : stockAt plan need 0 = 0 := by simp [stockAt, psum_zero]
theorem stockAt_succ {plan need : List Int} {i : Nat} (h : i < plan.length) (h2 : i < need.length) : stockAt plan need (i + 1) = stockAt plan need i + (gd plan i 0 - gd need i 0) := by
  simp only [stockAt, psum_succ h, psum_succ h2]; omega
def rowB (c : Cs) (plan : List Int) : Bool := decide (plan.length = c.1.length) && plan.all (inRg 0 160)
def nnB (c : Cs) (plan : List Int) : Bool := (List.range plan.length).all fun i => decide (0 ≤ stockAt plan c.1 (i + 1))
def planB (c : Cs) (plan : List Int) : Bool := rowB c plan && (nnB c plan && decide (stockAt plan c.1 plan.length = 0))
theorem rowP {c : Cs} {plan : List Int} (hc : CaseP c) (h : rowB c plan = true) : PlanP c plan := by
  simp only [rowB, Bool.and_eq_true, decide_eq_true_eq, bd_iff] at h
  exact ⟨hc, h.1, h.2⟩
theorem nn_cases (c : Cs) (plan : List Int) : (nnB c plan = true ∧ ∀ i, i < plan.length → 0 ≤ stockAt plan c.1 (i + 1)) ∨ (nnB c plan = false ∧ ∃ j, j < plan.length ∧ (∀ i, i < j → 0 ≤ stockAt plan c.1 (i + 1)) ∧ stockAt plan c.1 (j + 1) < 0) := by
  rcases first_cases (fun i => decide (0 ≤ stockAt plan c.1 (i + 1))) plan.length with h1 | ⟨j, hj, hb, hat⟩
  · exact .inl ⟨rangeB.2 h1, fun i hi => by simpa using h1 i hi⟩
  · have hat' : stockAt plan c.1 (j + 1) < 0 := Int.not_le.1 (by simpa using hat)
    refine .inr ⟨?_, j, hj, fun i hi => by simpa using hb i hi, hat'⟩
    cases hl : nnB c plan with
    | false => rfl
    | true => exact absurd (rangeB.1 hl j hj) (by simp [hat'])
theorem len_dec (a b : List Int) : decide ((a.length : Int) = b.length) = decide (a.length = b.length) := by rw [decide_eq_decide]; omega
theorem impl_Case_stocks_eq {N : Nat} {c : Cs} {plan : List Int} (hc : CaseP c) (hs : plan.length < 4194304) (hN : 4194304 ≤ N) : impl_Case_stocks N c plan = some (bif rowB c plan && nnB c plan then (stocksL plan c.1 plan.length, decide (stockAt plan c.1 plan.length = 0)) else ([], false), ()) := by
  simp only [impl_Case_stocks, ine_eq, len_eq, len_dec, impl_allWithin_eq hs hN, Option.bind_some, bif_not]
  cases hn : decide (plan.length = c.1.length) with
  | false => simp [rowB, hn]
  | true =>
  cases ha : plan.all (inRg 0 160) with
  | false => simp [rowB, hn, ha]
  | true =>
    have hr : rowB c plan = true := by simp only [rowB, hn, ha, Bool.and_self]
    have hp := rowP hc hr
    have h8 := hc.n
    have hl := hp.n
    simp only [cond_true, hr, Bool.true_and]
    have step : ∀ i, i < plan.length → ∀ kx, 0 ≤ stockAt plan c.1 (i + 1) → impl_Case_stocks_B1 N kx (stockAt plan c.1 i) plan plan.length i c (stocksL plan c.1 i) = kx (stockAt plan c.1 (i + 1)) plan plan.length ((i + 1 : Nat) : Int) c (stocksL plan c.1 (i + 1)) := fun i hi kx h0 => by
      have hb := hp.b i hi
      have hd := hc.b0 i (by omega)
      have h1 := hp.st (t := i) (by omega)
      simp only [impl_Case_stocks_B1, ilt_eq, Int.ofNat_lt, hi, decide_true, cond_true, inB_true hi, inB_true (show i < c.1.length by omega), chk_true', Int.toNat_natCast, iadd_nat (show i < 4611686018427387904 by omega)]
      rw [isub_in (by omega) (by omega), iadd_in (by omega) (by omega), ← stockAt_succ hi (show i < c.1.length by omega), chk_of (fitB_in (by rw [stocksL_len]; omega) (by omega)), ← stocksL_succ]
      simp only [show ¬ stockAt plan c.1 (i + 1) < 0 by omega, decide_false, cond_false]
    rcases nn_cases c plan with ⟨h, hall⟩ | ⟨h, j, hj, hbef, hat⟩
    · rw [h, cond_true]
      refine impl_Case_stocks_L1_run N (stockAt plan c.1) (fun _ => plan) (fun _ => plan.length) (fun i => i) (fun _ => c) (stocksL plan c.1) plan.length (fun i hi kx => step i hi kx (hall i hi)) (fun kx => ?_) N (by omega)
      simp only [impl_Case_stocks_B1, impl_Case_stocks_K1, ilt_eq, Int.lt_irrefl, decide_false, cond_false, ieq_eq]
    · rw [h, cond_false]
      refine impl_Case_stocks_L1_run N (stockAt plan c.1) (fun _ => plan) (fun _ => plan.length) (fun i => i) (fun _ => c) (stocksL plan c.1) j (fun i hi kx => step i (by omega) kx (hbef i hi)) (fun kx => ?_) N (by omega)
      have hb := hp.b j hj
      have hd := hc.b0 j (by omega)
      have h1 := hp.st (t := j) (by omega)
      simp only [impl_Case_stocks_B1, ilt_eq, Int.ofNat_lt, hj, decide_true, cond_true, inB_true hj, inB_true (show j < c.1.length by omega), chk_true', Int.toNat_natCast]
      rw [isub_in (by omega) (by omega), iadd_in (by omega) (by omega), ← stockAt_succ hj (show j < c.1.length by omega)]
      simp only [hat, decide_true, cond_true]
theorem impl_planned_eq {N : Nat} {c : Cs} {plan : List Int} (hc : SmC c) (hs : plan.length < 4194304) (hN : 4194304 ≤ N) : impl_planned N c plan = some (bif caseB c && planB c plan then (stocksL plan c.1 plan.length, true) else ([], false), ()) := by
  simp only [impl_planned, impl_IsCase_eq hc hN, Option.bind_some, bif_not]
  cases h : caseB c with
  | false => rfl
  | true =>
    simp only [cond_true, impl_Case_stocks_eq (caseB_iff.1 h) hs hN, Option.bind_some, planB, Bool.true_and]
    cases rowB c plan <;> cases nnB c plan <;> cases decide (stockAt plan c.1 plan.length = 0) <;> rfl
theorem spec_l2Stocks_eq {N : Nat} {c : Cs} {plan : List Int} (hp : PlanP c plan) (hN : 4194304 ≤ N) : spec_l2Stocks N c plan = some (stocksL plan c.1 plan.length, ()) := by
  have h8 := hp.cs.n
  have hl := hp.n
  refine spec_l2Stocks_L1_run N (fun _ => plan) (stockAt plan c.1) (fun i => i) (fun _ => c) (stocksL plan c.1) plan.length (fun i hi kx => ?_) (fun kx => ?_) N (by omega)
  · have hb := hp.b i hi
    have hd := hp.cs.b0 i (by omega)
    have h1 := hp.st (t := i) (by omega)
    simp only [spec_l2Stocks_B1, ilt_eq, len_eq, Int.ofNat_lt, hi, decide_true, cond_true, inB_true hi, inB_true (show i < c.1.length by omega), chk_true', Int.toNat_natCast, iadd_nat (show i < 4611686018427387904 by omega)]
    rw [iadd_in (by omega) (by omega), isub_in (by omega) (by omega), chk_of (fitB_in (by rw [stocksL_len]; omega) (by omega)), stocksL_succ, stockAt_succ hi (show i < c.1.length by omega), Int.add_sub_assoc]
  · simp only [spec_l2Stocks_B1, spec_l2Stocks_K1, ilt_eq, len_eq, Int.lt_irrefl, decide_false, cond_false]
theorem spec_l2Plan_eq {N : Nat} {c : Cs} {plan : List Int} (hc : CaseP c) (hs : plan.length < 4194304) (hN : 4194304 ≤ N) : spec_l2Plan N c plan = some (planB c plan, ()) := by
  have e0 : (plan.all (inRg 0 160) && decide ((plan.length : Int) = c.1.length)) = rowB c plan := by rw [rowB, len_dec, Bool.and_comm]
  simp only [spec_l2Plan, len_eq, spec_l2Row_eq hs hN, Option.bind_some, bif_not, planB, e0]
  cases hr : rowB c plan with
  | false => rfl
  | true =>
    have hp := rowP hc hr
    have h8 := hc.n
    have hl := hp.n
    simp only [cond_true, spec_l2Stocks_eq hp hN, Option.bind_some, Bool.true_and]
    have hlen := stocksL_len plan c.1 plan.length
    have step : ∀ i, i < plan.length → ∀ kx, 0 ≤ stockAt plan c.1 (i + 1) → spec_l2Plan_B1 N kx i (stocksL plan c.1 plan.length) = kx ((i + 1 : Nat) : Int) (stocksL plan c.1 plan.length) := fun i hi kx h0 => by
      simp only [spec_l2Plan_B1, ilt_eq, len_eq, hlen, Int.ofNat_lt, hi, decide_true, cond_true, inB_true hi, chk_true', Int.toNat_natCast, stocksL_gd _ _ hi, show ¬ stockAt plan c.1 (i + 1) < 0 by omega, decide_false, cond_false, iadd_nat (show i < 4611686018427387904 by omega)]
    rcases nn_cases c plan with ⟨h, hall⟩ | ⟨h, j, hj, hbef, hat⟩
    · refine spec_l2Plan_L1_run N (fun i => i) (fun _ => stocksL plan c.1 plan.length) plan.length (fun i hi kx => step i hi kx (hall i hi)) (fun kx => ?_) N (by omega)
      simp only [spec_l2Plan_B1, spec_l2Plan_K1, ilt_eq, len_eq, hlen, Int.lt_irrefl, decide_false, cond_false, ieq_eq, h, Bool.true_and]
      by_cases h0 : plan.length = 0
      · simp [h0, stockAt_zero]
      · rw [isub_in (by omega) (by omega), show (plan.length : Int) - 1 = ((plan.length - 1 : Nat) : Int) by omega, Int.toNat_natCast, stocksL_gd _ _ (by omega), show plan.length - 1 + 1 = plan.length by omega, chk_of (inB_true (by omega))]
        simp [h0]
    · refine spec_l2Plan_L1_run N (fun i => i) (fun _ => stocksL plan c.1 plan.length) j (fun i hi kx => step i (by omega) kx (hbef i hi)) (fun kx => ?_) N (by omega)
      simp only [spec_l2Plan_B1, ilt_eq, len_eq, hlen, Int.ofNat_lt, hj, decide_true, cond_true, inB_true hj, chk_true', Int.toNat_natCast, stocksL_gd _ _ hj, hat, h, Bool.false_and]
theorem spec_l2Two_eq {N : Nat} {c : Cs} {plan : List Int} (hc : SmC c) (hs : plan.length < 4194304) (hN : 4194304 ≤ N) : spec_l2Two N c plan = some (caseB c && planB c plan, ()) := by
  simp only [spec_l2Two, spec_l2Good_eq hc hN, Option.bind_some]
  cases h : caseB c with
  | false => rfl
  | true => simp only [cond_true, spec_l2Plan_eq (caseB_iff.1 h) hs hN, Option.bind_some, Bool.true_and]
def fSet (c : Cs) (plan : List Int) (t : Nat) : Int := ifpos (gd plan t 0) (gd c.2.1 t 0)
def fUnit (c : Cs) (plan : List Int) (t : Nat) : Int := gd c.2.2.1 t 0 * gd plan t 0
def fHold (c : Cs) (plan : List Int) (t : Nat) : Int := gd c.2.2.2 t 0 * stockAt plan c.1 (t + 1)
theorem fSet_bd {c : Cs} {plan : List Int} (h : PlanP c plan) : ∀ i, i ≤ plan.length → -20000 * i ≤ rsum (fSet c plan) i ∧ rsum (fSet c plan) i ≤ 20000 * i := fun i hi => rsum_bd fun k hk => by
  have hn := h.n
  have := ifpos_bd (p := gd plan k 0) (cellBd h.cs h.b200 (show k < c.1.length by omega) (by omega)).s
  simp only [fSet]; omega
theorem fUnit_bd {c : Cs} {plan : List Int} (h : PlanP c plan) : ∀ i, i ≤ plan.length → -20000 * i ≤ rsum (fUnit c plan) i ∧ rsum (fUnit c plan) i ≤ 20000 * i := fun i hi => rsum_bd fun k hk => by
  have hn := h.n
  have := (cellBd h.cs h.b200 (show k < c.1.length by omega) (by omega)).up
  simp only [fUnit]; omega
theorem fHold_bd1 {c : Cs} {plan : List Int} (h : PlanP c plan) {k : Nat} (hk : k < plan.length) : -20000 ≤ fHold c plan k ∧ fHold c plan k ≤ 20000 := by
  have hn := h.n
  have := mul_bd (cellBd h.cs h.b200 (show k < c.1.length by omega) hk).h (h.st (show k + 1 ≤ plan.length by omega))
  simp only [fHold]; omega
theorem fHold_bd {c : Cs} {plan : List Int} (h : PlanP c plan) : ∀ i, i ≤ plan.length → -20000 * i ≤ rsum (fHold c plan) i ∧ rsum (fHold c plan) i ≤ 20000 * i := fun i hi => rsum_bd fun k hk => fHold_bd1 h (by omega)
theorem impl_Case_parts_eq {N : Nat} {c : Cs} {plan : List Int} (h : PlanP c plan) (hN : 4194304 ≤ N) : impl_Case_parts N c plan = some ((rsum (fSet c plan) plan.length, rsum (fUnit c plan) plan.length, rsum (fHold c plan) plan.length), ()) := by
  have h8 := h.cs.n
  have hl := h.n
  refine impl_Case_parts_L1_run N (rsum (fSet c plan)) (rsum (fUnit c plan)) (rsum (fHold c plan)) (stockAt plan c.1) (fun _ => plan) (fun _ => plan.length) (fun i => i) (fun _ => c) plan.length (fun i hi kx => ?_) (fun kx => ?_) N (by omega)
  · have hc := cellBd h.cs h.b200 (show i < c.1.length by omega) hi
    have hup := hc.up
    have hsu := hc.s
    have hpp := hc.p
    have hd := h.cs.b0 i (by omega)
    have h1 := h.st (t := i) (by omega)
    have h2 := fHold_bd1 h hi
    have b1 := fSet_bd h i (by omega)
    have b2 := fUnit_bd h i (by omega)
    have b3 := fHold_bd h i (by omega)
    have hP := h.cs.l1
    have hQ := h.cs.l2
    have hR := h.cs.l3
    simp only [impl_Case_parts_B1, impl_Case_parts_K1, ilt_eq, Int.ofNat_lt, hi, decide_true, cond_true, inB_true hi, inB_true (show i < c.1.length by omega), inB_true (show i < c.2.1.length by omega), inB_true (show i < c.2.2.1.length by omega), inB_true (show i < c.2.2.2.length by omega), chk_true', Int.toNat_natCast, iadd_nat (show i < 4611686018427387904 by omega)]
    rw [isub_in (by omega) (by omega), iadd_in (a := stockAt plan c.1 i) (by omega) (by omega), ← stockAt_succ hi (show i < c.1.length by omega), imul_in (a := gd c.2.2.1 i 0) (by omega) (by omega), imul_in (a := gd c.2.2.2 i 0) (by simp only [fHold] at h2; omega) (by simp only [fHold] at h2; omega)]
    have e2 : gd c.2.2.1 i 0 * gd plan i 0 = fUnit c plan i := rfl
    have e3 : gd c.2.2.2 i 0 * stockAt plan c.1 (i + 1) = fHold c plan i := rfl
    rw [e2] at hup
    simp only [e2, e3]
    rw [iadd_in (a := rsum (fUnit c plan) i) (by omega) (by omega), iadd_in (a := rsum (fHold c plan) i) (by omega) (by omega)]
    by_cases hp : 0 < gd plan i 0
    · simp only [hp, decide_true, cond_true, rsum, fSet, ifpos, if_true] at *
      rw [iadd_in (by omega) (by omega)]
    · simp only [hp, decide_false, cond_false, rsum, fSet, ifpos, if_false, Int.add_zero]
  · simp only [impl_Case_parts_B1, impl_Case_parts_K2, ilt_eq, Int.lt_irrefl, decide_false, cond_false]
def costOf (c : Cs) (plan : List Int) : Int := rsum (fSet c plan) plan.length + rsum (fUnit c plan) plan.length + rsum (fHold c plan) plan.length
theorem impl_Case_cost_eq {N : Nat} {c : Cs} {plan : List Int} (h : PlanP c plan) (hN : 4194304 ≤ N) : impl_Case_cost N c plan = some (costOf c plan, ()) := by
  have b1 := fSet_bd h _ (Nat.le_refl _)
  have b2 := fUnit_bd h _ (Nat.le_refl _)
  have b3 := fHold_bd h _ (Nat.le_refl _)
  have h8 := h.cs.n
  have hl := h.n
  simp only [impl_Case_cost, impl_Case_parts_eq h hN, Option.bind_some, costOf]
  rw [iadd_in (a := rsum (fSet c plan) plan.length) (by omega) (by omega), iadd_in (by omega) (by omega)]
theorem spec_l2Parts_eq {N : Nat} {c : Cs} {plan : List Int} (h : PlanP c plan) (hN : 4194304 ≤ N) : spec_l2Parts N c plan = some ([rsum (fSet c plan) plan.length, rsum (fUnit c plan) plan.length, rsum (fHold c plan) plan.length], ()) := by
  have h8 := h.cs.n
  have hl := h.n
  have hlen := stocksL_len plan c.1 plan.length
  simp only [spec_l2Parts, spec_l2Stocks_eq h hN, Option.bind_some]
  refine spec_l2Parts_L1_run N (fun _ => plan) (fun i => i) (fun _ => c) (fun _ => List.replicate 3 0) (fun i => [rsum (fSet c plan) i, rsum (fUnit c plan) i, rsum (fHold c plan) i]) (fun _ => stocksL plan c.1 plan.length) plan.length (fun i hi kx => ?_) (fun kx => ?_) N (by omega)
  · have hc := cellBd h.cs h.b200 (show i < c.1.length by omega) hi
    have hup := hc.up
    have hsu := hc.s
    have h2 := fHold_bd1 h hi
    have b1 := fSet_bd h i (by omega)
    have b2 := fUnit_bd h i (by omega)
    have b3 := fHold_bd h i (by omega)
    have hP := h.cs.l1
    have hQ := h.cs.l2
    have hR := h.cs.l3
    have i0 : inB 0 3 = true := rfl
    have i1 : inB 1 3 = true := rfl
    have i2 : inB 2 3 = true := rfl
    have g0 : ∀ a b c : Int, gd [a, b, c] 0 0 = a := fun _ _ _ => rfl
    have g1 : ∀ a b c : Int, gd [a, b, c] 1 0 = b := fun _ _ _ => rfl
    have g2 : ∀ a b c : Int, gd [a, b, c] 2 0 = c := fun _ _ _ => rfl
    have s0 : ∀ a b c v : Int, List.set [a, b, c] 0 v = [v, b, c] := fun _ _ _ _ => rfl
    have s1 : ∀ a b c v : Int, List.set [a, b, c] 1 v = [a, v, c] := fun _ _ _ _ => rfl
    have s2 : ∀ a b c v : Int, List.set [a, b, c] 2 v = [a, b, v] := fun _ _ _ _ => rfl
    simp only [spec_l2Parts_B1, spec_l2Parts_K1, ilt_eq, len_eq, Int.ofNat_lt, hi, decide_true, cond_true, inB_true hi, inB_true (show i < c.2.1.length by omega), inB_true (show i < c.2.2.1.length by omega), inB_true (show i < c.2.2.2.length by omega), hlen, chk_true', Int.toNat_natCast, iadd_nat (show i < 4611686018427387904 by omega), i0, i1, i2, g0, g1, g2, s0, s1, s2, stocksL_gd _ _ hi]
    rw [imul_in (a := gd c.2.2.1 i 0) (by omega) (by omega), imul_in (a := gd c.2.2.2 i 0) (by simp only [fHold] at h2; omega) (by simp only [fHold] at h2; omega)]
    have e2 : gd c.2.2.1 i 0 * gd plan i 0 = fUnit c plan i := rfl
    have e3 : gd c.2.2.2 i 0 * stockAt plan c.1 (i + 1) = fHold c plan i := rfl
    rw [e2] at hup
    simp only [e2, e3]
    rw [iadd_in (a := rsum (fUnit c plan) i) (by omega) (by omega), iadd_in (a := rsum (fHold c plan) i) (by omega) (by omega)]
    by_cases hp : 0 < gd plan i 0
    · simp only [hp, decide_true, cond_true, rsum, fSet, ifpos, if_true] at *
      rw [iadd_in (by omega) (by omega)]
    · simp only [hp, decide_false, cond_false, rsum, fSet, ifpos, if_false, Int.add_zero]
  · simp only [spec_l2Parts_B1, spec_l2Parts_K2, ilt_eq, len_eq, Int.lt_irrefl, decide_false, cond_false]
theorem spec_l2Cost_eq {N : Nat} {c : Cs} {plan : List Int} (h : PlanP c plan) (hN : 4194304 ≤ N) : spec_l2Cost N c plan = some (costOf c plan, ()) := by
  have b1 := fSet_bd h _ (Nat.le_refl _)
  have b2 := fUnit_bd h _ (Nat.le_refl _)
  have b3 := fHold_bd h _ (Nat.le_refl _)
  have h8 := h.cs.n
  have hl := h.n
  have i0 : inB 0 3 = true := rfl
  have i1 : inB 1 3 = true := rfl
  have i2 : inB 2 3 = true := rfl
  have g0 : ∀ a b c : Int, gd [a, b, c] 0 0 = a := fun _ _ _ => rfl
  have g1 : ∀ a b c : Int, gd [a, b, c] 1 0 = b := fun _ _ _ => rfl
  have g2 : ∀ a b c : Int, gd [a, b, c] 2 0 = c := fun _ _ _ => rfl
  simp only [spec_l2Cost, spec_l2Parts_eq h hN, Option.bind_some, costOf, i0, i1, i2, chk_true', g0, g1, g2]
  rw [iadd_in (a := rsum (fSet c plan) plan.length) (by omega) (by omega), iadd_in (by omega) (by omega)]
theorem planB_P {c : Cs} {plan : List Int} (h : (caseB c && planB c plan) = true) : PlanP c plan := by
  simp only [planB, Bool.and_eq_true] at h
  exact rowP (caseB_iff.1 h.1) h.2.1
end Go.Rx.Px
namespace Go.Rx
theorem sum_cut {xs : List Int} {i t : Nat} (h : i ≤ t) : (cut xs i t).sum = psum xs t - psum xs i := by
  simp only [cut, Int.toNat_natCast, psum]
  have e : (xs.take t).sum = ((xs.take t).take i).sum + ((xs.take t).drop i).sum := by rw [← List.sum_append, List.take_append_drop]
  rw [List.take_take, Nat.min_eq_left h] at e
  omega
theorem cut_len {α : Type} (xs : List α) {i t : Nat} (h : t ≤ xs.length) : (cut xs i t).length = t - i := by simp [cut]; omega
theorem cut_gd {α : Type} (xs : List α) {i t k : Nat} (d : α) (h : i + k < t) : gd (cut xs i t) k d = gd xs (i + k) d := by
  simp [cut, gd, List.getD_eq_getElem?_getD, List.getElem?_drop, h]
theorem bd_cut {b : Int} {xs : List Int} (h : bd b xs) {i t : Nat} (ht : t ≤ xs.length) : bd b (cut xs i t) := fun k hk => by
  rw [cut_len xs ht] at hk
  rw [cut_gd xs 0 (by omega)]; exact h _ (by omega)
end Go.Rx
namespace Go.Rx.Px
def rateOf (c : Cs) (i t : Nat) : Int := gd c.2.2.1 i 0 + (psum c.2.2.2 t - psum c.2.2.2 i)
theorem rate_bd {c : Cs} (h : CaseP c) {i t : Nat} (hi : i < c.1.length) (hit : i ≤ t) (ht : t ≤ c.1.length) : 0 ≤ rateOf c i t ∧ rateOf c i t ≤ 81 := by
  have h1 := h.b2 i (by have := h.l2; omega)
  have h2 := psum_bd h.b3 t (by have := h.l3; omega)
  have h3 := psum_bd h.b3 i (by have := h.l3; omega)
  have h4 := psum_mono h.b3 hit (by have := h.l3; omega)
  have h8 := h.n
  simp only [rateOf]; omega
theorem impl_Case_rate_eq {N : Nat} {c : Cs} (h : CaseP c) {i t : Nat} (hi : i < c.1.length) (hit : i ≤ t) (ht : t ≤ c.1.length) (hN : 4194304 ≤ N) : impl_Case_rate N c i t = some (rateOf c i t, ()) := by
  have hr := rate_bd h hi hit ht
  have h2 := h.l2
  have h3 := h.l3
  have h8 := h.n
  simp only [impl_Case_rate, chk_of (inB_true (show i < c.2.2.1.length by omega)), chk_of (cutB_in (show (0 : Int) ≤ i by omega) (show (i : Int) ≤ t by omega) (show (t : Int) ≤ c.2.2.2.length by omega)), Int.toNat_natCast,
    impl_total_eq (bd_cut (i := i) (t := t) h.b3 (show t ≤ c.2.2.2.length by omega)) (by omega) (by rw [cut_len (i := i) (t := t) _ (by omega)]; omega) hN, Option.bind_some, sum_cut hit]
  simp only [rateOf] at hr
  rw [iadd_in (by omega) (by omega)]; rfl
theorem spec_l3Rate_eq {N : Nat} {c : Cs} (h : CaseP c) {i t : Nat} (hi : i < c.1.length) (hit : i ≤ t) (ht : t ≤ c.1.length) (hN : 4194304 ≤ N) : spec_l3Rate N c i t = some (rateOf c i t, ()) := by
  have h2 := h.l2
  have h3 := h.l3
  have h8 := h.n
  have e0 : gd c.2.2.1 i 0 = rateOf c i i := by simp only [rateOf]; omega
  simp only [spec_l3Rate, chk_of (inB_true (show i < c.2.2.1.length by omega)), Int.toNat_natCast, e0]
  refine (spec_l3Rate_L1_run N (fun _ => t) (fun k => rateOf c i (i + k)) (fun k => ((i + k : Nat) : Int)) (fun _ => c) (t - i) (fun k hk kx => ?_) (fun kx => ?_) N (by omega))
  · have hr := rate_bd h hi (show i ≤ i + k by omega) (by omega)
    have h1 := h.b3 (i + k) (by omega)
    simp only [spec_l3Rate_B1, ilt_eq, Int.ofNat_lt, show i + k < t by omega, decide_true, cond_true, inB_true (show i + k < c.2.2.2.length by omega), chk_true', Int.toNat_natCast, iadd_nat (show i + k < 4611686018427387904 by omega)]
    rw [iadd_in (by omega) (by omega)]
    simp only [rateOf, ← Nat.add_assoc, psum_succ (show i + k < c.2.2.2.length by omega)]
    congr 1; omega
  · simp only [spec_l3Rate_B1, spec_l3Rate_K1, ilt_eq, Int.ofNat_lt, show i + (t - i) = t by omega, Nat.lt_irrefl, decide_false, cond_false]
def mx0 (z : Int) : Int := if z > 0 then z else 0
def claimT (c : Cs) (prices : List Int) (i t : Nat) : Int := mx0 (gd prices t 0 - gd c.1 t 0 * rateOf c i t)
def claimOf (c : Cs) (prices : List Int) (i : Nat) : Int := rsum (fun k => claimT c prices i (i + k)) (prices.length - i)
theorem spec_l1Most_eq (N : Nat) (z : Int) : spec_l1Most N 0 z = some (mx0 z, ()) := by
  simp only [spec_l1Most, ilt_eq, mx0]
  by_cases h : z < 0
  · simp [h, show ¬ z > 0 by omega]
  · by_cases h2 : z > 0
    · simp [h, h2]
    · simp [h, h2]; omega
structure PrP (c : Cs) (prices : List Int) : Prop where
  cs : CaseP c
  n : prices.length ≤ c.1.length
  b : bd 9999 prices
theorem claim_bd {c : Cs} {prices : List Int} (h : PrP c prices) {i t : Nat} (hit : i ≤ t) (ht : t < prices.length) : (0 ≤ gd c.1 t 0 * rateOf c i t ∧ gd c.1 t 0 * rateOf c i t ≤ 1620) ∧ 0 ≤ claimT c prices i t ∧ claimT c prices i t ≤ 9999 := by
  have hn := h.n
  have h1 := h.cs.b0 t (by omega)
  have h2 := rate_bd h.cs (i := i) (t := t) (by omega) hit (by omega)
  have h3 := mul_bd (B := 81) h1 (show -81 ≤ rateOf c i t ∧ rateOf c i t ≤ 81 by omega)
  have h4 := Int.mul_nonneg h1.1 h2.1
  have h5 := h.b t ht
  refine ⟨by omega, ?_⟩
  simp only [claimT, mx0]; split <;> omega
theorem impl_Case_claim_eq {N : Nat} {c : Cs} {prices : List Int} (h : PrP c prices) {i : Nat} (hi : i < c.1.length) (hN : 4194304 ≤ N) : impl_Case_claim N c i prices = some (claimOf c prices i, ()) := by
  have hn := h.n
  have h8 := h.cs.n
  refine impl_Case_claim_L1_run N (fun _ => i) (fun _ => prices) (rsum fun k => claimT c prices i (i + k)) (fun k => ((i + k : Nat) : Int)) (fun _ => c) (prices.length - i) (fun k hk kx => ?_) (fun kx => ?_) N (by omega)
  · have hb := claim_bd h (show i ≤ i + k by omega) (by omega)
    have hS := rsum_bd (f := fun k => claimT c prices i (i + k)) (n := k) (lo := 0) (hi := 9999) (fun j hj => (claim_bd h (show i ≤ i + j by omega) (by omega)).2)
    have hp := h.b (i + k) (by omega)
    simp only [impl_Case_claim_B1, ilt_eq, len_eq, Int.ofNat_lt, show i + k < prices.length by omega, decide_true, cond_true, inB_true (show i + k < prices.length by omega), inB_true (show i + k < c.1.length by omega), chk_true', Int.toNat_natCast, iadd_nat (show i + k < 4611686018427387904 by omega),
      impl_Case_rate_eq h.cs hi (show i ≤ i + k by omega) (show i + k ≤ c.1.length by omega) hN, Option.bind_some]
    rw [imul_in (by omega) (by omega), isub_in (by omega) (by omega)]
    have e : imax 0 (gd prices (i + k) 0 - gd c.1 (i + k) 0 * rateOf c i (i + k)) = claimT c prices i (i + k) := rfl
    rw [e, iadd_in (by omega) (by omega)]; rfl
  · simp only [impl_Case_claim_B1, impl_Case_claim_K1, ilt_eq, len_eq, Int.ofNat_lt, show ¬ i + (prices.length - i) < prices.length by omega, decide_false, cond_false, claimOf]
theorem spec_l3Claim_eq {N : Nat} {c : Cs} {prices : List Int} (h : PrP c prices) {i : Nat} (hi : i < c.1.length) (hN : 4194304 ≤ N) : spec_l3Claim N c prices i = some (claimOf c prices i, ()) := by
  have hn := h.n
  have h8 := h.cs.n
  refine spec_l3Claim_L1_run N (fun _ => prices) (fun _ => i) (rsum fun k => claimT c prices i (i + k)) (fun k => ((i + k : Nat) : Int)) (fun _ => c) (prices.length - i) (fun k hk kx => ?_) (fun kx => ?_) N (by omega)
  · have hb := claim_bd h (show i ≤ i + k by omega) (by omega)
    have hS := rsum_bd (f := fun k => claimT c prices i (i + k)) (n := k) (lo := 0) (hi := 9999) (fun j hj => (claim_bd h (show i ≤ i + j by omega) (by omega)).2)
    have hp := h.b (i + k) (by omega)
    simp only [spec_l3Claim_B1, ilt_eq, len_eq, Int.ofNat_lt, show i + k < prices.length by omega, decide_true, cond_true, inB_true (show i + k < prices.length by omega), inB_true (show i + k < c.1.length by omega), chk_true', Int.toNat_natCast, iadd_nat (show i + k < 4611686018427387904 by omega),
      spec_l3Rate_eq h.cs hi (show i ≤ i + k by omega) (show i + k ≤ c.1.length by omega) hN, Option.bind_some]
    rw [imul_in (by omega) (by omega), isub_in (by omega) (by omega), spec_l1Most_eq]
    have e : mx0 (gd prices (i + k) 0 - gd c.1 (i + k) 0 * rateOf c i (i + k)) = claimT c prices i (i + k) := rfl
    simp only [Option.bind_some, e]
    rw [iadd_in (by omega) (by omega)]; rfl
  · simp only [spec_l3Claim_B1, spec_l3Claim_K1, ilt_eq, len_eq, Int.ofNat_lt, show ¬ i + (prices.length - i) < prices.length by omega, decide_false, cond_false, claimOf]
def prB (c : Cs) (prices : List Int) : Bool := decide (prices.length = c.1.length) && prices.all (inRg 0 9999)
def fairAt (c : Cs) (prices : List Int) (i : Nat) : Bool := decide (claimOf c prices i ≤ gd c.2.1 i 0) && (!decide (gd c.1 i 0 = 0) || decide (gd prices i 0 = 0))
def fairB (c : Cs) (prices : List Int) : Bool := (List.range prices.length).all (fairAt c prices)
theorem prP {c : Cs} {prices : List Int} (hc : CaseP c) (h : prB c prices = true) : PrP c prices ∧ prices.length = c.1.length := by
  simp only [prB, Bool.and_eq_true, decide_eq_true_eq, bd_iff] at h
  exact ⟨⟨hc, by omega, h.2⟩, h.1⟩
theorem fair_cases (c : Cs) (prices : List Int) : (fairB c prices = true ∧ ∀ i, i < prices.length → fairAt c prices i = true) ∨ (fairB c prices = false ∧ ∃ j, j < prices.length ∧ (∀ i, i < j → fairAt c prices i = true) ∧ fairAt c prices j = false) := by
  rcases first_cases (fairAt c prices) prices.length with h1 | ⟨j, hj, hb, hat⟩
  · exact .inl ⟨rangeB.2 h1, h1⟩
  · refine .inr ⟨?_, j, hj, hb, hat⟩
    cases hl : fairB c prices with
    | false => rfl
    | true => exact absurd (rangeB.1 hl j hj) (by simp [hat])
theorem impl_Case_arePrices_eq {N : Nat} {c : Cs} {prices : List Int} (hs : prices.length < 4194304) (hN : 4194304 ≤ N) : impl_Case_arePrices N c prices = some (prB c prices, ()) := by
  simp only [impl_Case_arePrices, ieq_eq, len_eq, len_dec, impl_allWithin_eq hs hN, Option.bind_some, bif_and, prB]
theorem spec_l3Prices_eq {N : Nat} {c : Cs} {prices : List Int} (hc : SmC c) (hs : prices.length < 4194304) (hN : 4194304 ≤ N) : spec_l3Prices N c prices = some (caseB c && prB c prices, ()) := by
  have e0 : (prices.all (inRg 0 9999) && decide ((prices.length : Int) = c.1.length)) = prB c prices := by rw [prB, len_dec, Bool.and_comm]
  simp only [spec_l3Prices, len_eq, spec_l2Good_eq hc hN, spec_l2Row_eq hs hN, Option.bind_some, e0, bif_and]
theorem impl_Case_areFair_eq {N : Nat} {c : Cs} {prices : List Int} (hc : CaseP c) (hp : prB c prices = true) (hN : 4194304 ≤ N) : impl_Case_areFair N c prices = some (fairB c prices, ()) := by
  obtain ⟨h, hn⟩ := prP hc hp
  have h8 := hc.n
  have h1 := hc.l1
  have step : ∀ i, i < prices.length → ∀ kx, impl_Case_areFair_B1 N kx prices prices prices.length i c = bif fairAt c prices i then kx prices prices prices.length ((i + 1 : Nat) : Int) c else some (false, ()) := fun i hi kx => by
    simp only [impl_Case_areFair_B1, ilt_eq, Int.ofNat_lt, hi, decide_true, cond_true, inB_true hi, inB_true (show i < c.1.length by omega), inB_true (show i < c.2.1.length by omega), chk_true', Int.toNat_natCast, iadd_nat (show i < 4611686018427387904 by omega), impl_Case_claim_eq h (show i < c.1.length by omega) hN, Option.bind_some, ieq_eq, ine_eq, fairAt]
    by_cases q1 : claimOf c prices i ≤ gd c.2.1 i 0
    · by_cases q2 : gd c.1 i 0 = 0 <;> by_cases q3 : gd prices i 0 = 0 <;> simp [q1, q2, q3, show ¬ gd c.2.1 i 0 < claimOf c prices i by omega]
    · simp [q1, show gd c.2.1 i 0 < claimOf c prices i by omega]
  rcases fair_cases c prices with ⟨e, hall⟩ | ⟨e, j, hj, hbef, hat⟩
  · rw [e]
    refine impl_Case_areFair_L1_run N (fun _ => prices) (fun _ => prices) (fun _ => prices.length) (fun i => i) (fun _ => c) prices.length (fun i hi kx => by rw [step i hi, hall i hi]; rfl) (fun kx => ?_) N (by omega)
    simp only [impl_Case_areFair_B1, impl_Case_areFair_K1, ilt_eq, Int.lt_irrefl, decide_false, cond_false]
  · rw [e]
    exact impl_Case_areFair_L1_run N (fun _ => prices) (fun _ => prices) (fun _ => prices.length) (fun i => i) (fun _ => c) j (fun i hi kx => by rw [step i (by omega), hbef i hi]; rfl) (fun kx => by rw [step j hj, hat]; rfl) N (by omega)
theorem spec_l3Fair_eq {N : Nat} {c : Cs} {prices : List Int} (hcs : SmC c) (hs : prices.length < 4194304) (hN : 4194304 ≤ N) : spec_l3Fair N c prices = some (caseB c && (prB c prices && fairB c prices), ()) := by
  simp only [spec_l3Fair, spec_l3Prices_eq hcs hs hN, Option.bind_some, bif_not]
  cases hcb : caseB c with
  | false => rfl
  | true =>
  cases hp : prB c prices with
  | false => rfl
  | true =>
  have hc := caseB_iff.1 hcb
  obtain ⟨h, hn⟩ := prP hc hp
  have h8 := hc.n
  have h1 := hc.l1
  simp only [Bool.true_and, cond_true]
  have step : ∀ i, i < prices.length → ∀ kx, spec_l3Fair_B1 N kx prices i c = bif fairAt c prices i then kx prices ((i + 1 : Nat) : Int) c else some (false, ()) := fun i hi kx => by
    have hb := h.b i hi
    simp only [spec_l3Fair_B1, ilt_eq, len_eq, Int.ofNat_lt, hi, decide_true, cond_true, inB_true hi, inB_true (show i < c.1.length by omega), inB_true (show i < c.2.1.length by omega), chk_true', Int.toNat_natCast, iadd_nat (show i < 4611686018427387904 by omega), spec_l3Claim_eq h (show i < c.1.length by omega) hN, Option.bind_some, ieq_eq, fairAt]
    by_cases q1 : claimOf c prices i ≤ gd c.2.1 i 0
    · by_cases q2 : gd c.1 i 0 = 0
      · by_cases q3 : gd prices i 0 = 0
        · simp [q1, q2, q3, show ¬ gd c.2.1 i 0 < claimOf c prices i by omega]
        · simp [q1, q2, q3, show ¬ gd c.2.1 i 0 < claimOf c prices i by omega, show 0 < gd prices i 0 by omega]
      · simp [q1, q2, show ¬ gd c.2.1 i 0 < claimOf c prices i by omega]
    · simp [q1, show gd c.2.1 i 0 < claimOf c prices i by omega]
  rcases fair_cases c prices with ⟨e, hall⟩ | ⟨e, j, hj, hbef, hat⟩
  · rw [e]
    refine spec_l3Fair_L1_run N (fun _ => prices) (fun i => i) (fun _ => c) prices.length (fun i hi kx => by rw [step i hi, hall i hi]; rfl) (fun kx => ?_) N (by omega)
    simp only [spec_l3Fair_B1, spec_l3Fair_K1, ilt_eq, len_eq, Int.lt_irrefl, decide_false, cond_false]
  · rw [e]
    exact spec_l3Fair_L1_run N (fun _ => prices) (fun i => i) (fun _ => c) j (fun i hi kx => by rw [step i (by omega), hbef i hi]; rfl) (fun kx => by rw [step j hj, hat]; rfl) N (by omega)
theorem spec_l2Sum_eq {N : Nat} {xs : List Int} {b : Int} (hb : bd b xs) (hb1 : b ≤ 1000000) (hl : xs.length < 4194304) (hN : 4194304 ≤ N) : spec_l2Sum N xs = some (xs.sum, ()) := by
  have hp : ∀ i, i ≤ xs.length → 0 ≤ psum xs i ∧ psum xs i ≤ 1000000 * i := psum_bd (fun i hi => ⟨(hb i hi).1, by have := (hb i hi).2; omega⟩)
  refine spec_l2Sum_L1_run N (fun _ => xs) (psum xs) (fun i => i) xs.length (fun i hi kx => ?_) (fun kx => ?_) N (by omega)
  · have h1 := hp i (by omega)
    have h2 := hb i hi
    simp [spec_l2Sum_B1, hi, inB_true hi, iadd_nat (show i < 4611686018427387904 by omega), iadd_in (show -9223372036854775808 ≤ psum xs i + gd xs i 0 by omega) (by omega), psum_succ hi]
  · simp [spec_l2Sum_B1, spec_l2Sum_K1, psum_all]
def proofOf (c : Cs) (prices plan : List Int) : Bool × Bool := bif (caseB c && planB c plan) && (prB c prices && fairB c prices) then (decide (prices.sum = costOf c plan), true) else (false, false)
theorem impl_IsPriceProof_eq {N : Nat} {c : Cs} {prices plan : List Int} (hc : SmC c) (h1 : prices.length < 4194304) (h2 : plan.length < 4194304) (hN : 4194304 ≤ N) : impl_IsPriceProof N c prices plan = some (proofOf c prices plan, ()) := by
  simp only [impl_IsPriceProof, impl_planned_eq hc h2 hN, Option.bind_some, bif_not, proofOf, impl_Case_arePrices_eq h1 hN]
  cases h : caseB c && planB c plan with
  | false => rfl
  | true =>
    have hP := planB_P h
    cases hp : prB c prices with
    | false => rfl
    | true =>
      obtain ⟨hq, _⟩ := prP hP.cs hp
      simp only [cond_true, impl_Case_areFair_eq hP.cs hp hN, Option.bind_some, Bool.true_and]
      cases hf : fairB c prices with
      | false => rfl
      | true => simp only [cond_true, impl_total_eq hq.b (by omega) h1 hN, impl_Case_cost_eq hP hN, Option.bind_some, ieq_eq]
theorem spec_IsPriceProof_eq {N : Nat} {c : Cs} {prices plan : List Int} (hc : SmC c) (h1 : prices.length < 4194304) (h2 : plan.length < 4194304) (hN : 4194304 ≤ N) : spec_IsPriceProof N c prices plan = some (proofOf c prices plan, ()) := by
  simp only [spec_IsPriceProof, spec_l3Fair_eq hc h1 hN, spec_l2Two_eq hc h2 hN, Option.bind_some, bif_not, proofOf]
  cases hcb : caseB c with
  | false => rfl
  | true =>
    cases hp : prB c prices with
    | false => simp
    | true =>
      cases hf : fairB c prices with
      | false => simp
      | true =>
        cases hq : planB c plan with
        | false => simp
        | true =>
          have hP := planB_P (c := c) (plan := plan) (by rw [hcb, hq]; rfl)
          obtain ⟨hq, _⟩ := prP hP.cs hp
          simp [spec_l2Sum_eq hq.b (by omega) h1 hN, spec_l2Cost_eq hP hN]
theorem laws_FnExactIsPriceProof_law (c : Cs) (p q : List Int) (h : RngC c) (hp : RngI p) (hq : RngI q) : ∃ N, laws_FnExactIsPriceProof N c p q = some (true, ()) := by
  refine ⟨4194304, ?_⟩
  simp only [laws_FnExactIsPriceProof, ilt_eq, len_eq]
  by_cases hl : (1048576 : Int) < p.length
  · simp [hl]
  by_cases hl2 : (1048576 : Int) < q.length
  · simp [hl, hl2]
  have hs2 : p.length < 4194304 := by omega
  have hs3 : q.length < 4194304 := by omega
  obtain ⟨r1, e1, q1⟩ := laws_szCase_eq 4194304 h (show (0 : Int) ≤ 1048576 by omega) (by omega)
  rcases q1 with q1 | ⟨q1, _, hs⟩
  · simp [e1, q1, hl, hl2]
  · simp [e1, hl, hl2, laws_toCase_eq hs (Nat.le_refl _), laws_toIntS_eq hs2 (Nat.le_refl _), laws_toIntS_eq hs3 (Nat.le_refl _), spec_IsPriceProof_eq hs hs2 hs3 (Nat.le_refl _), impl_IsPriceProof_eq hs hs2 hs3 (Nat.le_refl _), laws_eqCase_refl hs (Nat.le_refl _), laws_eqIntS_eq hs2 (Nat.le_refl _), laws_eqIntS_eq hs3 (Nat.le_refl _)]
end Go.Rx.Px
