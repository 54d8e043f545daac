/- This text proves, of the plain functions behind FnTraces, that the law answers true (part 1 of 1); no condition beyond the ranges that its arguments have. -/
import Derived.Test.YtnpggafmpknkaaaDoorPxFnTraces
set_option linter.unusedVariables false
set_option linter.unusedSimpArgs false
namespace Go.Rx
theorem wrap_in {n : Int} (h1 : -9223372036854775808 ≤ n) (h2 : n < 9223372036854775808) : IntKind.i64.wrap n = n := by
  simp [IntKind.wrap, IntKind.bits, IntKind.signed]
  omega
theorem iadd_in {a b : Int} (h1 : -9223372036854775808 ≤ a + b) (h2 : a + b < 9223372036854775808) : iadd .i64 a b = a + b := wrap_in h1 h2
theorem isub_in {a b : Int} (h1 : -9223372036854775808 ≤ a - b) (h2 : a - b < 9223372036854775808) : isub .i64 a b = a - b := wrap_in h1 h2
theorem imul_in {a b : Int} (h1 : -9223372036854775808 ≤ a * b) (h2 : a * b < 9223372036854775808) : imul .i64 a b = a * b := wrap_in h1 h2
theorem iadd_nat {i : Nat} (h : i < 4611686018427387904) : iadd .i64 (i : Int) 1 = ((i + 1 : Nat) : Int) := by rw [iadd_in (by omega) (by omega)]; omega
@[simp] theorem ilt_eq (a b : Int) : ilt a b = decide (a < b) := rfl
@[simp] theorem ile_eq (a b : Int) : ile a b = decide (a ≤ b) := rfl
@[simp] theorem ieq_eq (a b : Int) : ieq a b = decide (a = b) := rfl
@[simp] theorem ine_eq (a b : Int) : ine a b = !decide (a = b) := rfl
@[simp] theorem len_eq {α : Type} (xs : List α) : len xs = (xs.length : Int) := rfl
@[simp] theorem beq_eq (a b : Bool) : Go.Rx.beq a b = (a == b) := rfl
theorem inB_nat (i n : Nat) : inB (i : Int) n = decide (i < n) := by simp [inB]
theorem inB_true {i n : Nat} (h : i < n) : inB (i : Int) n = true := by simp [inB_nat, h]
theorem inB_in {i : Int} {n : Nat} (h0 : 0 ≤ i) (h : i < n) : inB i n = true := by simp [inB, h0, h]
theorem cutB_in {l h : Int} {n : Nat} (h0 : 0 ≤ l) (h1 : l ≤ h) (h2 : h ≤ n) : cutB l h n = true := by simp [cutB, h0, h1, h2]
theorem fitB_in {n b : Nat} (h : n < 4194304) (hb : b ≤ 1024) : fitB n b = true := by
  have : n * b ≤ 4194304 * 1024 := Nat.mul_le_mul (by omega) hb
  simp only [fitB, Bool.and_eq_true, decide_eq_true_eq]; omega
theorem mkB_in {n b : Nat} (h : n < 4194304) (hb : b ≤ 1024) : mkB (n : Int) b = true := by
  have : n * b ≤ 4194304 * 1024 := Nat.mul_le_mul (by omega) hb
  simp only [mkB, Bool.and_eq_true, decide_eq_true_eq, Int.toNat_natCast]; omega
@[simp] theorem chk_true' {α : Type} (x : Option α) : chk true x = x := rfl
@[simp] theorem chk_false {α : Type} (x : Option α) : chk false x = none := rfl
theorem all_cases {α : Type} (p : α → Bool) (d : α) : ∀ (xs : List α), (xs.all p = true ∧ ∀ i, i < xs.length → p (gd xs i d) = true) ∨ (xs.all p = false ∧ ∃ j, j < xs.length ∧ (∀ i, i < j → p (gd xs i d) = true) ∧ p (gd xs j d) = false)
  | [] => .inl ⟨rfl, fun i h => by simp at h⟩
  | a :: xs => by
    cases ha : p a with
    | false => exact .inr ⟨by simp [ha], 0, by simp, fun i h => by omega, by simpa [gd] using ha⟩
    | true =>
      rcases all_cases p d xs with ⟨h, hall⟩ | ⟨h, j, hj, hb, hat⟩
      · refine .inl ⟨by simp [ha] at h ⊢; exact h, fun i hi => ?_⟩
        cases i with
        | zero => simpa [gd] using ha
        | succ i => simpa [gd] using hall i (by simpa using hi)
      · refine .inr ⟨by rw [List.all_cons, ha, h]; rfl, j + 1, by simpa using hj, fun i hi => ?_, by simpa [gd] using hat⟩
        cases i with
        | zero => simpa [gd] using ha
        | succ i => simpa [gd] using hb i (by omega)
theorem first_cases (p : Nat → Bool) : ∀ (n : Nat), (∀ i, i < n → p i = true) ∨ (∃ j, j < n ∧ (∀ i, i < j → p i = true) ∧ p j = false)
  | 0 => .inl fun i h => by omega
  | n + 1 => by
    rcases first_cases p n with h | ⟨j, hj, hb, hat⟩
    · cases hn : p n with
      | true => exact .inl fun i hi => by by_cases e : i = n; exact e ▸ hn; exact h i (by omega)
      | false => exact .inr ⟨n, by omega, h, hn⟩
    · exact .inr ⟨j, by omega, hb, hat⟩
theorem take_succ {α : Type} (xs : List α) (i : Nat) (d : α) (h : i < xs.length) : xs.take (i + 1) = xs.take i ++ [gd xs i d] := by
  rw [List.take_succ_eq_append_getElem h]; simp [gd, List.getD_eq_getElem?_getD, h]
theorem mem_getD {α : Type} {xs : List α} {i : Nat} (d : α) (h : i < xs.length) : gd xs i d ∈ xs := by
  rw [gd, List.getD_eq_getElem?_getD, List.getElem?_eq_getElem h]; simp
def inRg (lo hi x : Int) : Bool := decide (lo ≤ x) && decide (x ≤ hi)
def bd (b : Int) (xs : List Int) : Prop := ∀ i, i < xs.length → 0 ≤ gd xs i 0 ∧ gd xs i 0 ≤ b
theorem all_gd {α : Type} {p : α → Bool} {xs : List α} (d : α) (h : xs.all p = true) : ∀ i, i < xs.length → p (gd xs i d) = true := fun _ hi => List.all_eq_true.1 h _ (mem_getD d hi)
theorem bd_of {b : Int} {xs : List Int} (h : xs.all (inRg 0 b) = true) : bd b xs := fun i hi => by
  have := all_gd 0 h i hi
  simpa [inRg] using this
theorem bd_iff {b : Int} {xs : List Int} : xs.all (inRg 0 b) = true ↔ bd b xs := by
  refine ⟨bd_of, fun h => ?_⟩
  rcases all_cases (inRg 0 b) 0 xs with ⟨h1, _⟩ | ⟨_, j, hj, _, hat⟩
  · exact h1
  · have := h j hj
    simp [inRg, this] at hat
def psum (xs : List Int) (i : Nat) : Int := (xs.take i).sum
theorem psum_zero (xs : List Int) : psum xs 0 = 0 := by simp [psum]
theorem psum_succ {xs : List Int} {i : Nat} (h : i < xs.length) : psum xs (i + 1) = psum xs i + gd xs i 0 := by
  unfold psum; rw [take_succ xs i 0 h]; simp
theorem psum_all (xs : List Int) : psum xs xs.length = xs.sum := by simp [psum]
theorem psum_bd {b : Int} {xs : List Int} (h : bd b xs) : ∀ i, i ≤ xs.length → 0 ≤ psum xs i ∧ psum xs i ≤ b * i
  | 0, _ => by simp [psum_zero]
  | i + 1, hi => by
    have h1 := psum_bd h i (by omega)
    have h2 := h i (by omega)
    rw [psum_succ (by omega)]
    have : b * ((i + 1 : Nat) : Int) = b * i + b := by rw [Int.natCast_add, Int.mul_add]; simp
    omega
theorem bif_not {α : Type} (a : Bool) (x y : α) : (bif !a then x else y) = bif a then y else x := by cases a <;> rfl
def RngI (xs : List Int) : Prop := xs.length ≤ maxLen ∧ ∀ i, i < xs.length → (Lit.int .i64 (xs.getD i 0)).wf = true
def RngZ (x : Int) : Prop := (Lit.int .i64 x).wf = true
theorem RngZ.bd {x : Int} (h : RngZ x) : -9223372036854775808 ≤ x ∧ x ≤ 9223372036854775807 := by
  simpa [RngZ, Lit.wf, IntKind.min, IntKind.max, IntKind.signed, IntKind.bits] using h
theorem RngI.bd {xs : List Int} (h : RngI xs) : ∀ i, i < xs.length → -9223372036854775808 ≤ gd xs i 0 ∧ gd xs i 0 ≤ 9223372036854775807 := fun i hi => RngZ.bd (h.2 i hi)
end Go.Rx
namespace Go.Rx.Px
theorem impl_within_eq (N : Nat) (x lo hi : Int) : impl_within N x lo hi = some (inRg lo hi x, ()) := by
  simp only [impl_within, ile_eq, inRg]; by_cases h : lo ≤ x <;> simp [h]
theorem spec_l1In_eq (N : Nat) (x lo hi : Int) : spec_l1In N x lo hi = some (inRg lo hi x, ()) := by
  simp only [spec_l1In, ile_eq, inRg]; by_cases h : lo ≤ x <;> simp [h]
theorem impl_allWithin_eq {N : Nat} {xs : List Int} {lo hi : Int} (hl : xs.length < 4194304) (hN : 4194304 ≤ N) : impl_allWithin N xs lo hi = some (xs.all (inRg lo hi), ()) := by
  unfold impl_allWithin
  rcases all_cases (inRg lo hi) 0 xs with ⟨h, hall⟩ | ⟨h, j, hj, hbef, hat⟩
  · refine impl_allWithin_L1_run N (fun _ => lo) (fun _ => hi) (fun _ => xs) (fun _ => xs.length) (fun i => i) xs.length (fun i hi kx => ?_) (fun kx => ?_) N (by omega)
    · simp [impl_allWithin_B1, hi, inB_true hi, impl_within_eq, hall i hi, iadd_nat (show i < 4611686018427387904 by omega)]
    · simp [impl_allWithin_B1, impl_allWithin_K1, h]
  · refine impl_allWithin_L1_run N (fun _ => lo) (fun _ => hi) (fun _ => xs) (fun _ => xs.length) (fun i => i) j (fun i hi kx => ?_) (fun kx => ?_) N (by omega)
    · simp [impl_allWithin_B1, show i < xs.length by omega, inB_true (show i < xs.length by omega), impl_within_eq, hbef i hi, iadd_nat (show i < 4611686018427387904 by omega)]
    · simp [impl_allWithin_B1, hj, inB_true hj, impl_within_eq, hat, h]
theorem spec_l2Row_eq {N : Nat} {xs : List Int} {n hi : Int} (hl : xs.length < 4194304) (hN : 4194304 ≤ N) : spec_l2Row N xs n hi = some (xs.all (inRg 0 hi) && decide ((xs.length : Int) = n), ()) := by
  unfold spec_l2Row
  rcases all_cases (inRg 0 hi) 0 xs with ⟨h, hall⟩ | ⟨h, j, hj, hbef, hat⟩
  · refine spec_l2Row_L1_run N (fun _ => xs) (fun _ => n) (fun _ => hi) (fun i => i) xs.length (fun i hi kx => ?_) (fun kx => ?_) N (by omega)
    · simp [spec_l2Row_B1, hi, inB_true hi, spec_l1In_eq, hall i hi, iadd_nat (show i < 4611686018427387904 by omega)]
    · simp [spec_l2Row_B1, spec_l2Row_K1, h]
  · refine spec_l2Row_L1_run N (fun _ => xs) (fun _ => n) (fun _ => hi) (fun i => i) j (fun i hi kx => ?_) (fun kx => ?_) N (by omega)
    · simp [spec_l2Row_B1, show i < xs.length by omega, inB_true (show i < xs.length by omega), spec_l1In_eq, hbef i hi, iadd_nat (show i < 4611686018427387904 by omega)]
    · simp [spec_l2Row_B1, hj, inB_true hj, spec_l1In_eq, hat, h]
theorem impl_total_eq {N : Nat} {xs : List Int} {b : Int} (hb : bd b xs) (hb1 : b ≤ 1000000) (hl : xs.length < 4194304) (hN : 4194304 ≤ N) : impl_total N xs = some (xs.sum, ()) := by
  have hp : ∀ i, i ≤ xs.length → 0 ≤ psum xs i ∧ psum xs i ≤ 1000000 * i := psum_bd (fun i hi => ⟨(hb i hi).1, by have := (hb i hi).2; omega⟩)
  refine impl_total_L1_run N (psum xs) (fun _ => xs) (fun _ => xs.length) (fun i => i) xs.length (fun i hi kx => ?_) (fun kx => ?_) N (by omega)
  · have h1 := hp i (by omega)
    have h2 := hb i hi
    simp [impl_total_B1, hi, inB_true hi, iadd_nat (show i < 4611686018427387904 by omega), iadd_in (show -9223372036854775808 ≤ psum xs i + gd xs i 0 by omega) (by omega), psum_succ hi]
  · simp [impl_total_B1, impl_total_K1, psum_all]
end Go.Rx.Px
namespace Go.Rx
theorem gd_map_range {α : Type} (f : Nat → α) (d : α) {n i : Nat} (h : i < n) : gd ((List.range n).map f) i d = f i := by
  simp [gd, List.getD_eq_getElem?_getD, h]
theorem rangeB {p : Nat → Bool} {n : Nat} : (List.range n).all p = true ↔ ∀ i, i < n → p i = true := by simp
end Go.Rx
namespace Go.Rx.Px
theorem spec_l2Sum_eq {N : Nat} {xs : List Int} {b : Int} (hb : bd b xs) (hb1 : b ≤ 1000000) (hl : xs.length < 4194304) (hN : 4194304 ≤ N) : spec_l2Sum N xs = some (xs.sum, ()) := by
  have hp : ∀ i, i ≤ xs.length → 0 ≤ psum xs i ∧ psum xs i ≤ 1000000 * i := psum_bd (fun i hi => ⟨(hb i hi).1, by have := (hb i hi).2; omega⟩)
  refine spec_l2Sum_L1_run N (fun _ => xs) (psum xs) (fun i => i) xs.length (fun i hi kx => ?_) (fun kx => ?_) N (by omega)
  · have h1 := hp i (by omega)
    have h2 := hb i hi
    simp [spec_l2Sum_B1, hi, inB_true hi, iadd_nat (show i < 4611686018427387904 by omega), iadd_in (show -9223372036854775808 ≤ psum xs i + gd xs i 0 by omega) (by omega), psum_succ hi]
  · simp [spec_l2Sum_B1, spec_l2Sum_K1, psum_all]
end Go.Rx.Px
namespace Go.Rx
theorem map_range_len {α : Type} (f : Nat → α) (n : Nat) : ((List.range n).map f).length = n := by simp
theorem range_cases (p : Nat → Bool) (n : Nat) : ((List.range n).all p = true ∧ ∀ t, t < n → p t = true) ∨ ((List.range n).all p = false ∧ ∃ j, j < n ∧ (∀ t, t < j → p t = true) ∧ p j = false) := by
  rcases first_cases p n with h | ⟨j, hj, hb, hat⟩
  · exact .inl ⟨rangeB.2 h, h⟩
  · refine .inr ⟨?_, j, hj, hb, hat⟩
    cases hl : (List.range n).all p with
    | false => rfl
    | true => exact absurd (rangeB.1 hl j hj) (by simp [hat])
abbrev Pl := List (List Int)
def RngB (xs : List Int) : Prop := xs.length ≤ maxLen ∧ ∀ i, i < xs.length → (Lit.int .u8 (xs.getD i 0)).wf = true
theorem u8_bd {x : Int} (h : (Lit.int .u8 x).wf = true) : 0 ≤ x ∧ x ≤ 255 := by
  simpa [Lit.wf, IntKind.min, IntKind.max, IntKind.signed, IntKind.bits] using h
theorem RngB.bd {xs : List Int} (h : RngB xs) : ∀ i, i < xs.length → 0 ≤ gd xs i 0 ∧ gd xs i 0 ≤ 255 := fun i hi => u8_bd (h.2 i hi)
theorem iand255 (x : Int) : 0 ≤ iand .u64 x 255 ∧ iand .u64 x 255 ≤ 255 := by
  have h : (BitVec.ofInt 64 x &&& BitVec.ofInt 64 255).toNat ≤ 255 := by
    rw [BitVec.toNat_and]
    exact Nat.le_trans Nat.and_le_right (by decide)
  have e : iand .u64 x 255 = IntKind.u64.wrap (((BitVec.ofInt 64 x &&& BitVec.ofInt 64 255).toNat : Nat) : Int) := rfl
  rw [e]
  generalize (BitVec.ofInt 64 x &&& BitVec.ofInt 64 255).toNat = q at h
  simp [IntKind.wrap, IntKind.bits, IntKind.signed]
  omega
theorem irem_bd {a n : Int} (ha : 0 ≤ a) (hn : 0 < n) : 0 ≤ irem a n ∧ irem a n < n := ⟨Int.tmod_nonneg _ ha, Int.tmod_lt_of_pos _ hn⟩
abbrev Cu := List Int × Int × Int
structure Bud (c : Cu) (k : Nat) : Prop where
  b : ∀ i, i < c.1.length → 0 ≤ gd c.1 i 0 ∧ gd c.1 i 0 ≤ 255
  l : c.1.length ≤ 65536
  p : 0 ≤ c.2.1
  q : c.2.1 + k ≤ 1000000000
theorem Bud.mono {c : Cu} {k m : Nat} (h : Bud c k) (hm : m ≤ k) : Bud c m := ⟨h.b, h.l, h.p, by have := h.q; omega⟩
theorem bud_zero {xs : List Int} (h : RngB xs) (hl : xs.length ≤ 65536) (k : Nat) (hk : k ≤ 1000000) : Bud (xs, (0, 0)) k := ⟨h.bd, hl, by show (0 : Int) ≤ 0; omega, by show (0 : Int) + k ≤ 1000000000; omega⟩
end Go.Rx
namespace Go.Rx.Px
theorem next_K1_ok {N : Nat} {b : Int} {c : Cu} {k : Nat} (h : Bud c (k + 1)) (hb : 0 ≤ b ∧ b ≤ 255) : ∃ v c', pspec_l1Cur_next_K1 N b c = some (v, c') ∧ Bud c' k ∧ 0 ≤ v ∧ v ≤ 255 := by
  have hp := h.p
  have hq := h.q
  have hB : ∀ z : Int, Bud (c.1, (c.2.1 + 1, z)) k := fun z => ⟨h.b, h.l, by show (0 : Int) ≤ c.2.1 + 1; omega, by show c.2.1 + 1 + (k : Int) ≤ 1000000000; omega⟩
  simp only [pspec_l1Cur_next_K1, iadd_in (a := c.2.1) (b := 1) (by omega) (by omega), ile_eq, len_eq]
  by_cases hl : c.2.1 + 1 ≤ c.1.length
  · simp only [hl, decide_true, cond_true]
    exact ⟨_, _, rfl, hB _, hb.1, hb.2⟩
  · simp only [hl, decide_false, cond_false, show decide ((0 : Int) ≤ 40) = true by decide, chk_true']
    refine ⟨_, _, rfl, hB _, ?_⟩
    have := iand255 (ishr .u64 (iadd .u64 (iadd .u64 (imul .u64 c.2.2 6364136223846793005) (icv .u64 b)) 462197) 40)
    show 0 ≤ IntKind.i64.wrap _ ∧ IntKind.i64.wrap _ ≤ 255
    rw [wrap_in (by omega) (by omega)]
    exact this
theorem next_ok {N : Nat} {c : Cu} {k : Nat} (h : Bud c (k + 1)) : ∃ v c', pspec_l1Cur_next N c = some (v, c') ∧ Bud c' k ∧ 0 ≤ v ∧ v ≤ 255 := by
  have hp := h.p
  simp only [pspec_l1Cur_next, ilt_eq, len_eq]
  by_cases hl : c.2.1 < c.1.length
  · have hb := h.b c.2.1.toNat (by omega)
    have e : icv .i64 (gd c.1 c.2.1.toNat 0) = gd c.1 c.2.1.toNat 0 := wrap_in (by omega) (by omega)
    simp only [hl, decide_true, cond_true, chk_of (inB_in hp hl), e]
    exact next_K1_ok h hb
  · simp only [hl, decide_false, cond_false]
    exact next_K1_ok h (by omega)
theorem pick_ok {N : Nat} {c : Cu} {k : Nat} (n : Int) (h : Bud c (k + 2)) : ∃ v c', pspec_l1Cur_pick N c n = some (v, c') ∧ Bud c' k ∧ 0 ≤ v ∧ (v = 0 ∨ v < n) := by
  simp only [pspec_l1Cur_pick, ile_eq, ilt_eq, ine_eq]
  by_cases h1 : n ≤ 1
  · simp only [h1, decide_true, cond_true]
    exact ⟨0, c, rfl, h.mono (by omega), by omega, .inl rfl⟩
  · have hn : ¬ n = 0 := by omega
    obtain ⟨r, c1, e1, b1, v1, v1'⟩ := next_ok (N := N) h
    simp only [h1, decide_false, cond_false, e1, Option.bind_some, hn, Bool.not_false, chk_true']
    by_cases h2 : 200 < n
    · obtain ⟨r2, c2, e2, b2, v2, v2'⟩ := next_ok (N := N) b1
      simp only [h2, decide_true, cond_true, e2, Option.bind_some]
      rw [imul_in (by omega) (by omega), iadd_in (by omega) (by omega)]
      have := irem_bd (a := r * 256 + r2) (n := n) (by omega) (by omega)
      exact ⟨_, _, rfl, b2, this.1, .inr this.2⟩
    · simp only [h2, decide_false, cond_false]
      have := irem_bd (a := r) (n := n) (by omega) (by omega)
      exact ⟨_, _, rfl, b1.mono (by omega), this.1, .inr this.2⟩
theorem among_ok {N : Nat} {c : Cu} {k : Nat} {list : List Int} (lo hi : Int) (hl : 0 < list.length) (hb : ∀ x, x ∈ list → lo ≤ x ∧ x ≤ hi) (h : Bud c (k + 2)) : ∃ v c', pspec_l1Cur_among N c list = some (v, c') ∧ Bud c' k ∧ lo ≤ v ∧ v ≤ hi := by
  obtain ⟨r, c1, e1, b1, v1, v1'⟩ := pick_ok (N := N) (list.length : Int) h
  have hr : r < list.length := by omega
  simp only [pspec_l1Cur_among, len_eq, e1, Option.bind_some, chk_of (inB_in v1 hr)]
  exact ⟨_, _, rfl, b1, hb _ (mem_getD 0 (by omega))⟩
theorem one_ok {N : Nat} {c : Cu} {k : Nat} (n : Int) (h : Bud c (k + 2)) : ∃ v c', pspec_l1Cur_one N c n = some (v, c') ∧ Bud c' k := by
  obtain ⟨r, c1, e1, b1, v1, v1'⟩ := pick_ok (N := N) n h
  simp only [pspec_l1Cur_one, e1, Option.bind_some]
  exact ⟨_, _, rfl, b1⟩
theorem laws_rInts_refl {N : Nat} {a : List Int} (h : a.length < 4194304) (hN : 4194304 ≤ N) : laws_rInts N a a = some (true, ()) := by
  simp only [laws_rInts, ine_eq, len_eq, decide_true, Bool.not_true, cond_false]
  refine laws_rInts_L1_run N (fun _ => a) (fun _ => a) (fun i => i) a.length (fun i hi kx => ?_) (fun kx => ?_) N (by omega)
  · simp only [laws_rInts_B1, ilt_eq, len_eq, Int.ofNat_lt, hi, decide_true, cond_true, inB_true hi, chk_true', Int.toNat_natCast, iadd_nat (show i < 4611686018427387904 by omega), ine_eq, Bool.not_true, cond_false]
  · simp only [laws_rInts_B1, laws_rInts_K1, ilt_eq, len_eq, Int.lt_irrefl, decide_false, cond_false]
def bts (s : ByteArray) : List UInt8 := s.data.toList
def txt (l : List UInt8) : ByteArray := ⟨l.toArray⟩
theorem bts_txt (l : List UInt8) : bts (txt l) = l := rfl
theorem txt_ext {x y : ByteArray} (h : bts x = bts y) : x = y := ByteArray.ext (Array.ext' h)
theorem size_bts (s : ByteArray) : s.size = (bts s).length := rfl
theorem seq_iff {x y : ByteArray} : Go.Rx.seq x y = decide (x = y) := by
  unfold Go.Rx.seq
  rw [ByteArray.toList_eq, ByteArray.toList_eq]
  by_cases h : x = y
  · subst h; simp
  · rw [decide_eq_false h, beq_eq_false_iff_ne]; exact fun e => h (txt_ext e)
theorem scat_txt (a b : List UInt8) : scat (txt a) (txt b) = txt (a ++ b) := txt_ext (by simp [scat, bts, txt])
theorem scut_bts (x : ByteArray) (l h : Nat) : bts (scut x l h) = ((bts x).take h).drop l := by
  simp [scut, bts, List.extract_eq_take_drop, List.drop_take]
theorem sfit_in {x y : ByteArray} (h : x.size + y.size < 4194304) : sfit x y = true := decide_eq_true (by omega)
def csN (l : List UInt8) : Nat := l.foldl (fun h b => (41 * h + b.toNat + 1) % 999979) 7
theorem foldl_lt (l : List UInt8) : ∀ h : Nat, h < 999979 → l.foldl (fun h b => (41 * h + b.toNat + 1) % 999979) h < 999979 := by
  induction l with
  | nil => exact fun h hh => hh
  | cons b l ih => exact fun h _ => ih _ (Nat.mod_lt _ (by omega))
theorem csN_lt (l : List UInt8) : csN l < 999979 := foldl_lt l 7 (by omega)
theorem ten_word {d : Nat} (h : d < 10) : scut (⟨#[48, 49, 50, 51, 52, 53, 54, 55, 56, 57]⟩ : ByteArray) (d : Int) (((d + 1 : Nat)) : Int) = txt [UInt8.ofNat (48 + d)] := by
  refine txt_ext ?_
  rw [scut_bts]
  have : d = 0 ∨ d = 1 ∨ d = 2 ∨ d = 3 ∨ d = 4 ∨ d = 5 ∨ d = 6 ∨ d = 7 ∨ d = 8 ∨ d = 9 := by omega
  rcases this with rfl | rfl | rfl | rfl | rfl | rfl | rfl | rfl | rfl | rfl <;> rfl
theorem dec_len (u : Nat) : ∀ d : Nat, u < 10 ^ (d + 1) → (Lib.decDigits u).length ≤ d + 1 := by
  intro d
  induction d generalizing u with
  | zero => intro h; rw [Lib.decDigits_one (by omega)]; simp
  | succ d ih =>
    intro h
    rw [Lib.decDigits]
    by_cases c : u < 10
    · rw [dif_pos c]; simp
    · rw [dif_neg c, List.length_append]
      have := ih (u / 10) (by rw [Nat.pow_succ] at h; omega)
      simp; omega
theorem num_pos (N : Nat) : ∀ (d u m : Nat), u < 10 ^ (d + 1) → d ≤ 17 → d + 1 ≤ m → spec_l1Num_R N m (u : Int) = some (txt (Lib.decDigits u), ()) := by
  intro d
  induction d with
  | zero =>
    intro u m h _ hm
    obtain ⟨q, rfl⟩ : ∃ q, m = q + 1 := ⟨m - 1, by omega⟩
    have hu : u < 10 := by omega
    rw [spec_l1Num_R_succ]
    simp only [spec_l1Num_F, ilt_eq, decide_eq_false (show ¬ (u : Int) < 0 by omega), decide_eq_true (show (u : Int) < 10 by omega), cond_false, cond_true, iadd_nat (show u < 4611686018427387904 by omega)]
    rw [cutB_in (by omega) (by omega) (by show ((u + 1 : Nat) : Int) ≤ ((10 : Nat) : Int); omega), chk_true', ten_word hu, Lib.decDigits_one hu]
  | succ d ih =>
    intro u m h hd hm
    obtain ⟨q, rfl⟩ : ∃ q, m = q + 1 := ⟨m - 1, by omega⟩
    by_cases hu : u < 10
    · rw [spec_l1Num_R_succ]
      simp only [spec_l1Num_F, ilt_eq, decide_eq_false (show ¬ (u : Int) < 0 by omega), decide_eq_true (show (u : Int) < 10 by omega), cond_false, cond_true, iadd_nat (show u < 4611686018427387904 by omega)]
      rw [cutB_in (by omega) (by omega) (by show ((u + 1 : Nat) : Int) ≤ ((10 : Nat) : Int); omega), chk_true', ten_word hu, Lib.decDigits_one hu]
    · have hb : (10 : Nat) ^ (d + 1 + 1) ≤ 10 ^ 19 := Nat.pow_le_pow_right (by omega) (by omega)
      have hb2 : (10 : Nat) ^ 19 = 10000000000000000000 := by decide
      have hdl := dec_len (u / 10) d (by rw [Nat.pow_succ] at h; omega)
      have hq : iquo .i64 (u : Int) 10 = ((u / 10 : Nat) : Int) := by
        simp only [iquo]
        rw [Int.tdiv_eq_ediv_of_nonneg (by omega), wrap_in (by omega) (by omega)]
        omega
      have hr : irem (u : Int) 10 = ((u % 10 : Nat) : Int) := by
        simp only [irem]
        rw [Int.tmod_eq_emod_of_nonneg (by omega)]
        omega
      have h10 : u % 10 < 10 := Nat.mod_lt _ (by omega)
      rw [spec_l1Num_R_succ]
      simp only [spec_l1Num_F, ilt_eq, decide_eq_false (show ¬ (u : Int) < 0 by omega), decide_eq_false (show ¬ (u : Int) < 10 by omega), cond_false, show ine 10 0 = true from rfl, chk_true', hq, ih (u / 10) q (by rw [Nat.pow_succ] at h; omega) (by omega) (by omega), Option.bind_some, hr, iadd_nat (show u % 10 < 4611686018427387904 by omega)]
      rw [cutB_in (by omega) (by omega) (by show ((u % 10 + 1 : Nat) : Int) ≤ ((10 : Nat) : Int); omega), chk_true', ten_word h10]
      rw [sfit_in (by rw [size_bts, size_bts, bts_txt, bts_txt]; simp; omega), chk_true', scat_txt]
      conv => rhs; rw [Lib.decDigits, dif_neg hu]
def numT (n : Int) : List UInt8 := Lib.itoa n
theorem numT_nat (u : Nat) : numT (u : Int) = Lib.decDigits u := Lib.itoa_nonneg u
theorem spec_l1Num_eq {N : Nat} {n : Int} (h1 : -1000000000000000000 < n) (h2 : n < 1000000000000000000) (hN : 4194304 ≤ N) : spec_l1Num N n = some (txt (numT n), ()) := by
  simp only [spec_l1Num]
  by_cases hn : n < 0
  · obtain ⟨u, rfl⟩ : ∃ u : Nat, n = -(u : Int) := ⟨n.natAbs, by omega⟩
    obtain ⟨q, rfl⟩ : ∃ q, N = q + 1 := ⟨N - 1, by omega⟩
    have hdl := dec_len u 17 (by omega)
    rw [spec_l1Num_R_succ]
    simp only [spec_l1Num_F, ilt_eq, decide_eq_true hn, cond_true, isub_in (show -9223372036854775808 ≤ 0 - -(u : Int) by omega) (by omega), show (0 : Int) - -(u : Int) = (u : Int) by omega, num_pos (q + 1) 17 u q (by omega) (by omega) (by omega), Option.bind_some]
    rw [show (⟨#[45]⟩ : ByteArray) = txt [45] from rfl, sfit_in (by rw [size_bts, size_bts, bts_txt, bts_txt]; simp; omega), chk_true', scat_txt]
    unfold numT
    rw [Lib.itoa_neg u (by omega)]; rfl
  · obtain ⟨u, rfl⟩ : ∃ u : Nat, n = (u : Int) := ⟨n.toNat, by omega⟩
    rw [num_pos N 17 u N (by omega) (by omega) (by omega), numT_nat]
theorem strconv_Itoa_eq {N : Nat} {n : Int} (h1 : -1000000000000000000 < n) (h2 : n < 1000000000000000000) : strconv_Itoa N n = some (txt (numT n), ()) := by
  simp only [strconv_Itoa, decide_eq_true (show -9223372036854775808 ≤ n by omega), decide_eq_true (show n ≤ 9223372036854775807 by omega), Bool.and_self, chk_true', numT]
  rfl
def sealT (t : List UInt8) : List UInt8 := t ++ [35] ++ numT (csN t)
def textT (k : Int) (a b : List UInt8) : List UInt8 := numT k ++ [32] ++ a ++ [64] ++ b
def lineT (k : Int) (a b : List UInt8) : List UInt8 := sealT (textT k a b) ++ [10]
theorem numT_len {k : Int} (h0 : 0 ≤ k) (h1 : k < 1000000) : (numT k).length ≤ 6 := by
  obtain ⟨u, rfl⟩ : ∃ u : Nat, k = (u : Int) := ⟨k.toNat, by omega⟩
  rw [numT_nat]; exact dec_len u 5 (by omega)
structure RecP (e : ByteArray × ByteArray) : Prop where
  some : e.1 ≠ ⟨#[]⟩
  pl1 : ∀ c ∈ bts e.1, 32 ≤ c.toNat ∧ c.toNat ≤ 126 ∧ c ≠ 35 ∧ c ≠ 64
  n1 : (bts e.1).length ≤ 160
  pl2 : ∀ c ∈ bts e.2, 32 ≤ c.toNat ∧ c.toNat ≤ 126 ∧ c ≠ 35
  n2 : (bts e.2).length ≤ 200
structure Line (k : Nat) (l : List UInt8) (e : ByteArray × ByteArray) : Prop where
  hk : k < 60
  hr : RecP e
  heq : lineT k (bts e.1) (bts e.2) = l ++ [10]
theorem Line.sealed {k : Nat} {l : List UInt8} {e : ByteArray × ByteArray} (h : Line k l e) : l = sealT (textT k (bts e.1) (bts e.2)) := by
  have := h.heq
  unfold lineT at this
  exact ((List.append_inj_left' this rfl)).symm
theorem Line.len {k : Nat} {l : List UInt8} {e : ByteArray × ByteArray} (h : Line k l e) : (textT k (bts e.1) (bts e.2)).length ≤ 400 ∧ l.length ≤ 410 := by
  have h1 := h.hr.n1
  have h2 := h.hr.n2
  have h3 := numT_len (k := (k : Int)) (by omega) (by have := h.hk; omega)
  have h4 := csN_lt (textT k (bts e.1) (bts e.2))
  have h5 := numT_len (k := (csN (textT k (bts e.1) (bts e.2)) : Nat)) (by omega) (by omega)
  have h6 : (textT k (bts e.1) (bts e.2)).length ≤ 400 := by simp only [textT, List.length_append, List.length_singleton]; omega
  refine ⟨h6, ?_⟩
  rw [h.sealed]
  simp only [sealT, List.length_append, List.length_singleton]; omega
theorem range_take {α : Type} (f : Nat → α) : ∀ n, (List.range (n + 1)).map f = (List.range n).map f ++ [f n] := fun n => by rw [List.range_succ, List.map_append]; rfl
theorem gdl_set {xs : Pl} {i j : Nat} {v : List Int} (hi : i < xs.length) : gd (List.set xs i v) j [] = if j = i then v else gd xs j [] := by
  by_cases e : j = i
  · subst e; rw [if_pos rfl]; simp [gd, List.getD_eq_getElem?_getD, hi]
  · rw [if_neg e]; simp [gd, List.getD_eq_getElem?_getD, List.getElem?_set_ne (Ne.symm e)]
structure PerLen (P : Pl) (n : Nat) : Prop where
  l : P.length ≤ n
  r : ∀ s, s < P.length → (gd P s []).length ≤ 16
theorem PerLen.cons {P : Pl} {n : Nat} {l : List Int} (h : PerLen P n) (hl : l.length ≤ 16) : PerLen ([l] ++ P) (n + 1) := ⟨by have := h.l; simp; omega, fun s hs => by
  cases s with
  | zero => exact hl
  | succ s => exact h.r s (by simp at hs; omega)⟩
theorem PerLen.set {P : Pl} {n : Nat} {l : List Int} (h : PerLen P n) (h0 : 0 < P.length) (hl : l.length ≤ 16) : PerLen (List.set P 0 l) n := ⟨by have := h.l; simp; omega, fun s hs => by
  rw [List.length_set] at hs
  rw [gdl_set h0]
  split
  · exact hl
  · exact h.r s hs⟩
structure Rect (P : Pl) (K n : Nat) : Prop where
  l : P.length = K
  r : ∀ s, s < K → (gd P s []).length = n
theorem Rect.set {P : Pl} {K n s : Nat} {x : List Int} (h : Rect P K n) (hs : s < K) (hx : x.length = n) : Rect (List.set P s x) K n := ⟨by rw [List.length_set]; exact h.l, fun r hr => by
  rw [gdl_set (by rw [h.l]; exact hs)]
  split
  · exact hx
  · exact h.r r hr⟩
theorem join_snoc (xs : List (List UInt8)) (x sep : List UInt8) (h : xs ≠ []) : Lib.join (xs ++ [x]) sep = Lib.join xs sep ++ sep ++ x := by
  cases xs with
  | nil => exact absurd rfl h
  | cons a r => rw [List.cons_append, Lib.join_cons, Lib.join_cons]; simp [Lib.joinTail, List.map_append, List.flatten_append]
def powI (a : Int) : Nat → Int
  | 0 => 1
  | n + 1 => powI a n * a
theorem powI_bd {a : Int} (h0 : 0 ≤ a) (h : a ≤ 20) : ∀ n, 0 ≤ powI a n ∧ powI a n ≤ powI 20 n
  | 0 => by simp [powI]
  | n + 1 => by
    obtain ⟨h1, h2⟩ := powI_bd h0 h n
    have h3 := Int.mul_nonneg h1 h0
    have h4 := Int.mul_le_mul h2 h h0 (by omega)
    exact ⟨h3, h4⟩
theorem powI_le {a : Int} (h0 : 0 ≤ a) (h : a ≤ 20) {n : Nat} (hn : n ≤ 5) : 0 ≤ powI a n ∧ powI a n ≤ 3200000 := by
  obtain ⟨h1, h2⟩ := powI_bd h0 h n
  refine ⟨h1, Int.le_trans h2 ?_⟩
  match n, hn with
  | 0, _ | 1, _ | 2, _ | 3, _ | 4, _ | 5, _ => decide
def worB : Nat → Int
  | 0 => 0
  | n + 1 => 20 * worB n + 10000000000
theorem worB_le {n : Nat} (hn : n ≤ 5) : 0 ≤ worB n ∧ worB n ≤ 1700000000000000 := by
  match n, hn with
  | 0, _ | 1, _ | 2, _ | 3, _ | 4, _ | 5, _ => decide
abbrev Pc := Int × List Int × Int × Int × Int × Int
def pcB (p : Pc) : Bool := inRg 0 5 p.1 && (inRg 1 5 (p.2.1.length : Int) && (p.2.1.all (inRg 0 4) && (decide (0 < p.2.1.sum) && (inRg 0 99 p.2.2.1 && (inRg 0 9 p.2.2.2.1 && (inRg 0 9 p.2.2.2.2.1 && inRg 0 9 p.2.2.2.2.2))))))
structure PcP (p : Pc) : Prop where
  t : 0 ≤ p.1 ∧ p.1 ≤ 5
  w : 1 ≤ p.2.1.length ∧ p.2.1.length ≤ 5
  b : bd 4 p.2.1
  s : 0 < p.2.1.sum
  u : 0 ≤ p.2.2.1 ∧ p.2.2.1 ≤ 99
  k : 0 ≤ p.2.2.2.1 ∧ p.2.2.2.1 ≤ 9
  h : 0 ≤ p.2.2.2.2.1 ∧ p.2.2.2.2.1 ≤ 9
  r : 0 ≤ p.2.2.2.2.2 ∧ p.2.2.2.2.2 ≤ 9
theorem pcP {p : Pc} (h : pcB p = true) : PcP p := by
  simp only [pcB, inRg, Bool.and_eq_true, decide_eq_true_eq] at h
  obtain ⟨h1, h2, h3, h4, h5, h6, h7, h8⟩ := h
  exact ⟨h1, by omega, bd_iff.1 h3, h4, h5, h6, h7, h8⟩
def upOf (p : Pc) (pair : List Int) (x : Int) : Int := if x < gd pair 0 0 ∨ x < (p.2.1.length : Int) - 11 then gd pair 1 0 else x
def ordOf (p : Pc) (x y : Int) : Int := if x < y then p.2.2.1 + p.2.2.2.1 * (y - x) else 0
def keepOf (p : Pc) (x : Int) : Int := if 0 < x then p.2.2.2.2.1 * x else -(p.2.2.2.2.2) * x
def polAt (p : Pc) (pair : List Int) : Bool := inRg (-10) 10 (gd pair 0 0) && (inRg (-10) 10 (gd pair 1 0) && (decide (gd pair 0 0 ≤ gd pair 1 0) && decide ((p.2.1.length : Int) - 11 ≤ gd pair 1 0)))
theorem pair_gd (levels : Pl) {t : Nat} (h : t < levels.length) : gd levels t (List.replicate 2 0) = gd levels t [] := by simp [gd, List.getD_eq_getElem?_getD, h]
theorem floor_eq {N : Nat} {p : Pc} (h : p.2.1.length ≤ 5) : impl_Process_floor N p = some ((p.2.1.length : Int) - 11, ()) ∧ spec_l6Floor N p = some ((p.2.1.length : Int) - 11, ()) := by
  have e : isub .i64 (isub .i64 (len p.2.1) 1) 10 = (p.2.1.length : Int) - 11 := by
    have e1 : isub .i64 (p.2.1.length : Int) 1 = (p.2.1.length : Int) - 1 := isub_in (by omega) (by omega)
    rw [len_eq, e1, isub_in (by omega) (by omega)]; omega
  exact ⟨by simp only [impl_Process_floor, e], by simp only [spec_l6Floor, e]⟩
theorem up_eq {N : Nat} {p : Pc} (h : p.2.1.length ≤ 5) (pair : List Int) (x : Int) : impl_Process_orders N p pair x = some (upOf p pair x, ()) ∧ spec_l6Up N p pair x = some (upOf p pair x, ()) := by
  obtain ⟨f1, f2⟩ := floor_eq (N := N) h
  have g0 : inB 0 2 = true := inB_in (by omega) (by omega)
  have g1 : inB 1 2 = true := inB_in (by omega) (by omega)
  simp only [impl_Process_orders, spec_l6Up, g0, g1, chk_true', f1, f2, Option.bind_some, ilt_eq, upOf]
  by_cases q : x < gd pair 0 0
  · simp [q]
  · by_cases q2 : x < (p.2.1.length : Int) - 11
    · simp [q, q2]
    · simp [q, q2]
theorem isProc_eq {N : Nat} {p : Pc} (hl : p.2.1.length < 4194304) (hN : 4194304 ≤ N) : impl_IsProcess N p = some (pcB p, ()) ∧ spec_l6Good N p = some (pcB p, ()) := by
  simp only [impl_IsProcess, spec_l6Good, impl_within_eq, spec_l1In_eq, Option.bind_some, len_eq, impl_allWithin_eq hl hN, spec_l2Row_eq hl hN, decide_true, Bool.and_true, pcB, impl_allWithin_eq (N := N) (xs := [p.2.2.2.1, p.2.2.2.2.1, p.2.2.2.2.2]) (by simp) hN]
  cases h1 : inRg 0 5 p.1 with
  | false => exact ⟨rfl, rfl⟩
  | true =>
    cases h2 : inRg 1 5 (p.2.1.length : Int) with
    | false => exact ⟨rfl, rfl⟩
    | true =>
      cases h3 : p.2.1.all (inRg 0 4) with
      | false => exact ⟨rfl, rfl⟩
      | true =>
        simp only [cond_true, impl_total_eq (bd_iff.1 h3) (by omega) hl hN, spec_l2Sum_eq (bd_iff.1 h3) (by omega) hl hN, Option.bind_some, ilt_eq, Bool.true_and]
        cases h4 : decide (0 < p.2.1.sum) with
        | false => exact ⟨rfl, rfl⟩
        | true =>
          cases h5 : inRg 0 99 p.2.2.1 with
          | false => exact ⟨rfl, rfl⟩
          | true =>
            simp only [cond_true, List.all_cons, List.all_nil, Bool.and_true, Bool.true_and]
            cases inRg 0 9 p.2.2.2.1 <;> cases inRg 0 9 p.2.2.2.2.1 <;> simp
def polB (p : Pc) (levels : Pl) : Bool := (List.range levels.length).all (fun t => polAt p (gd levels t [])) && decide ((levels.length : Int) = p.1)
theorem level_eq {N : Nat} (x : Int) : impl_isLevel N x = some (inRg (-10) 10 x, ()) ∧ spec_l6Level N x = some (inRg (-10) 10 x, ()) := by
  constructor
  · simp only [impl_isLevel, impl_within_eq, Option.bind_some]
  · simp only [spec_l6Level, spec_l1In_eq, Option.bind_some]
theorem impl_isPolicy_eq {N : Nat} {p : Pc} {levels : Pl} (hp : PcP p) (hl : levels.length < 4194304) (hN : 4194304 ≤ N) : impl_Process_isPolicy N p levels = some (polB p levels, ()) := by
  have hw := hp.w
  obtain ⟨f1, f2⟩ := floor_eq (N := N) (p := p) (by omega)
  have g0 : inB 0 2 = true := inB_in (by omega) (by omega)
  have g1 : inB 1 2 = true := inB_in (by omega) (by omega)
  have step : ∀ t, t < levels.length → ∀ kx, impl_Process_isPolicy_B1 N kx levels levels (levels.length : Int) (t : Nat) p = bif polAt p (gd levels t []) then kx levels levels (levels.length : Int) ((t + 1 : Nat) : Int) p else some (false, ()) := fun t ht kx => by
    simp only [impl_Process_isPolicy_B1, ilt_eq, Int.ofNat_lt, ht, decide_true, cond_true, inB_true ht, g0, g1, chk_true', Int.toNat_natCast, pair_gd levels ht, (level_eq _).1, Option.bind_some, f1, bif_not, iadd_nat (show t < 4611686018427387904 by omega), polAt]
    cases h1 : inRg (-10) 10 (gd (gd levels t []) 0 0) with
    | false => rfl
    | true =>
      cases h2 : inRg (-10) 10 (gd (gd levels t []) 1 0) with
      | false => rfl
      | true =>
        by_cases q1 : gd (gd levels t []) 0 0 ≤ gd (gd levels t []) 1 0
        · by_cases q2 : (p.2.1.length : Int) - 11 ≤ gd (gd levels t []) 1 0
          · simp [q1, q2, show ¬ gd (gd levels t []) 1 0 < gd (gd levels t []) 0 0 by omega, show ¬ gd (gd levels t []) 1 0 < (p.2.1.length : Int) - 11 by omega]
          · simp [q1, q2, show ¬ gd (gd levels t []) 1 0 < gd (gd levels t []) 0 0 by omega, show gd (gd levels t []) 1 0 < (p.2.1.length : Int) - 11 by omega]
        · simp [q1, show gd (gd levels t []) 1 0 < gd (gd levels t []) 0 0 by omega]
  simp only [impl_Process_isPolicy, len_eq]
  rcases range_cases (fun t => polAt p (gd levels t [])) levels.length with ⟨h1, h2⟩ | ⟨h1, j, h2, h4, h5⟩
  · rw [show polB p levels = decide ((levels.length : Int) = p.1) by simp only [polB, h1, Bool.true_and]]
    refine impl_Process_isPolicy_L1_run N (fun _ => levels) (fun _ => levels) (fun _ => (levels.length : Int)) (fun t => (t : Int)) (fun _ => p) levels.length (fun t ht kx => by rw [step t ht, h2 t ht]; rfl) (fun kx => ?_) N (by omega)
    simp only [impl_Process_isPolicy_B1, impl_Process_isPolicy_K1, ilt_eq, Int.lt_irrefl, decide_false, cond_false, ieq_eq, len_eq]
  · rw [show polB p levels = false by simp only [polB, h1, Bool.false_and]]
    exact impl_Process_isPolicy_L1_run N (fun _ => levels) (fun _ => levels) (fun _ => (levels.length : Int)) (fun t => (t : Int)) (fun _ => p) j (fun t ht kx => by rw [step t (by omega), h4 t ht]; rfl) (fun kx => by rw [step j h2, h5]; rfl) N (by omega)
theorem spec_l6Policy_eq {N : Nat} {p : Pc} {levels : Pl} (hp : PcP p) (hl : levels.length < 4194304) (hN : 4194304 ≤ N) : spec_l6Policy N p levels = some (polB p levels, ()) := by
  have hw := hp.w
  obtain ⟨f1, f2⟩ := floor_eq (N := N) (p := p) (by omega)
  have g0 : inB 0 2 = true := inB_in (by omega) (by omega)
  have g1 : inB 1 2 = true := inB_in (by omega) (by omega)
  have step : ∀ t, t < levels.length → ∀ kx, spec_l6Policy_B1 N kx levels (t : Nat) p = bif polAt p (gd levels t []) then kx levels ((t + 1 : Nat) : Int) p else some (false, ()) := fun t ht kx => by
    simp only [spec_l6Policy_B1, ilt_eq, len_eq, Int.ofNat_lt, ht, decide_true, cond_true, inB_true ht, g0, g1, chk_true', Int.toNat_natCast, pair_gd levels ht, (level_eq _).2, Option.bind_some, f2, bif_not, iadd_nat (show t < 4611686018427387904 by omega), polAt]
    cases h1 : inRg (-10) 10 (gd (gd levels t []) 0 0) with
    | false => rfl
    | true =>
      cases h2 : inRg (-10) 10 (gd (gd levels t []) 1 0) with
      | false => rfl
      | true =>
        by_cases q1 : gd (gd levels t []) 0 0 ≤ gd (gd levels t []) 1 0
        · by_cases q2 : (p.2.1.length : Int) - 11 ≤ gd (gd levels t []) 1 0
          · simp [q1, q2, show ¬ gd (gd levels t []) 1 0 < gd (gd levels t []) 0 0 by omega, show ¬ gd (gd levels t []) 1 0 < (p.2.1.length : Int) - 11 by omega]
          · simp [q1, q2, show ¬ gd (gd levels t []) 1 0 < gd (gd levels t []) 0 0 by omega, show gd (gd levels t []) 1 0 < (p.2.1.length : Int) - 11 by omega]
        · simp [q1, show gd (gd levels t []) 1 0 < gd (gd levels t []) 0 0 by omega]
  simp only [spec_l6Policy]
  rcases range_cases (fun t => polAt p (gd levels t [])) levels.length with ⟨h1, h2⟩ | ⟨h1, j, h2, h4, h5⟩
  · rw [show polB p levels = decide ((levels.length : Int) = p.1) by simp only [polB, h1, Bool.true_and]]
    refine spec_l6Policy_L1_run N (fun _ => levels) (fun t => (t : Int)) (fun _ => p) levels.length (fun t ht kx => by rw [step t ht, h2 t ht]; rfl) (fun kx => ?_) N (by omega)
    simp only [spec_l6Policy_B1, spec_l6Policy_K1, ilt_eq, Int.lt_irrefl, decide_false, cond_false, ieq_eq, len_eq]
  · rw [show polB p levels = false by simp only [polB, h1, Bool.false_and]]
    exact spec_l6Policy_L1_run N (fun _ => levels) (fun t => (t : Int)) (fun _ => p) j (fun t ht kx => by rw [step t (by omega), h4 t ht]; rfl) (fun kx => by rw [step j h2, h5]; rfl) N (by omega)
theorem pol_pair {p : Pc} {pair : List Int} (h : polAt p pair = true) : (-10 ≤ gd pair 0 0 ∧ gd pair 0 0 ≤ 10) ∧ (-10 ≤ gd pair 1 0 ∧ gd pair 1 0 ≤ 10) ∧ gd pair 0 0 ≤ gd pair 1 0 ∧ (p.2.1.length : Int) - 11 ≤ gd pair 1 0 := by
  simp only [polAt, inRg, Bool.and_eq_true, decide_eq_true_eq] at h
  exact ⟨h.1, h.2.1, h.2.2.1, h.2.2.2⟩
theorem up_bd {p : Pc} {pair : List Int} {x : Int} (h : polAt p pair = true) (hx : -10 ≤ x ∧ x ≤ 10) : x ≤ upOf p pair x ∧ upOf p pair x ≤ 10 ∧ (p.2.1.length : Int) - 11 ≤ upOf p pair x := by
  obtain ⟨h1, h2, h3, h4⟩ := pol_pair h
  unfold upOf
  by_cases q : x < gd pair 0 0 ∨ x < (p.2.1.length : Int) - 11
  · rw [if_pos q]; omega
  · rw [if_neg q]; omega
theorem ord_eq {N : Nat} {p : Pc} (hp : PcP p) {x y : Int} (h1 : x ≤ y) (hx : -10 ≤ x) (hy : y ≤ 10) : impl_Process_order N p x y = some (ordOf p x y, ()) ∧ spec_l6Order N p x y = some (ordOf p x y, ()) ∧ 0 ≤ ordOf p x y ∧ ordOf p x y ≤ 279 := by
  have hu := hp.u
  have hk := hp.k
  have e0 : isub .i64 y x = y - x := isub_in (by omega) (by omega)
  have m1 := Int.mul_nonneg hk.1 (show 0 ≤ y - x by omega)
  have m2 := Int.mul_le_mul hk.2 (show y - x ≤ 20 by omega) (by omega) (by omega)
  have e1 : imul .i64 p.2.2.2.1 (y - x) = p.2.2.2.1 * (y - x) := imul_in (by omega) (by omega)
  have e2 : iadd .i64 p.2.2.1 (p.2.2.2.1 * (y - x)) = p.2.2.1 + p.2.2.2.1 * (y - x) := iadd_in (by omega) (by omega)
  simp only [impl_Process_order, spec_l6Order, ieq_eq, ilt_eq, ordOf, e0, e1, e2]
  by_cases q : x < y
  · simp only [q, show ¬ y = x by omega, decide_true, decide_false, cond_true, cond_false, if_true]
    exact ⟨trivial, trivial, by omega, by omega⟩
  · simp only [q, show y = x by omega, decide_true, decide_false, cond_true, cond_false, if_false, Int.lt_irrefl]
    exact ⟨trivial, trivial, by omega, by omega⟩
theorem keep_eq {N : Nat} {p : Pc} (hp : PcP p) {x : Int} (h1 : -10 ≤ x) (h2 : x ≤ 10) : impl_Process_keep N p x = some (keepOf p x, ()) ∧ spec_l6Kept N p x = some (keepOf p x, ()) ∧ 0 ≤ keepOf p x ∧ keepOf p x ≤ 90 := by
  have hh := hp.h
  have hr := hp.r
  have e0 : isub .i64 0 x = -x := by rw [isub_in (by omega) (by omega)]; omega
  have e3 : isub .i64 0 p.2.2.2.2.2 = -p.2.2.2.2.2 := by rw [isub_in (by omega) (by omega)]; omega
  simp only [impl_Process_keep, spec_l6Kept, ilt_eq, keepOf, e0, e3]
  by_cases q : 0 < x
  · have a1 : imax 0 x = x := by unfold imax; split <;> omega
    have a2 : imax 0 (-x) = 0 := by unfold imax; split <;> omega
    have m1 := Int.mul_nonneg hh.1 (show 0 ≤ x by omega)
    have m2 := Int.mul_le_mul hh.2 h2 (by omega) (by omega)
    have e4 : imul .i64 p.2.2.2.2.1 x = p.2.2.2.2.1 * x := imul_in (by omega) (by omega)
    have e5 : imul .i64 p.2.2.2.2.2 0 = 0 := by rw [imul_in (by omega) (by omega)]; omega
    simp only [a1, a2, e4, e5, q, decide_true, cond_true, if_true]
    rw [iadd_in (by omega) (by omega), Int.add_zero]
    refine ⟨by trivial, by trivial, by omega, by omega⟩
  · have a1 : imax 0 x = 0 := by unfold imax; split <;> omega
    have a2 : imax 0 (-x) = -x := by unfold imax; split <;> omega
    have m1 := Int.mul_nonneg hr.1 (show 0 ≤ -x by omega)
    have m2 := Int.mul_le_mul hr.2 (show -x ≤ 10 by omega) (by omega) (by omega)
    have e6 : -p.2.2.2.2.2 * x = p.2.2.2.2.2 * -x := by rw [Int.neg_mul, Int.mul_neg]
    have e4 : imul .i64 p.2.2.2.2.2 (-x) = p.2.2.2.2.2 * -x := imul_in (by omega) (by omega)
    have e5 : imul .i64 p.2.2.2.2.1 0 = 0 := by rw [imul_in (by omega) (by omega)]; omega
    have e7 : imul .i64 (-p.2.2.2.2.2) x = p.2.2.2.2.2 * -x := by rw [imul_in (by rw [e6]; omega) (by rw [e6]; omega), e6]
    simp only [a1, a2, e4, e5, e7, q, decide_false, cond_false, if_false, e6]
    rw [iadd_in (by omega) (by omega), Int.zero_add]
    refine ⟨by trivial, by trivial, by omega, by omega⟩
def askB (p : Pc) (d : Int) : Bool := inRg 0 ((p.2.1.length : Int) - 1) d && decide (0 < gd p.2.1 d.toNat 0)
theorem asked_eq {N : Nat} {p : Pc} (h : p.2.1.length ≤ 5) (d : Int) : impl_Process_isAsked N p d = some (askB p d, ()) ∧ spec_l6Asked N p d = some (askB p d, ()) := by
  have e : isub .i64 (len p.2.1) 1 = (p.2.1.length : Int) - 1 := by rw [len_eq, isub_in (by omega) (by omega)]
  simp only [impl_Process_isAsked, spec_l6Asked, impl_within_eq, spec_l1In_eq, e, Option.bind_some, ilt_eq, askB]
  cases q : inRg 0 ((p.2.1.length : Int) - 1) d with
  | false => exact ⟨rfl, rfl⟩
  | true =>
    have q' := q
    simp only [inRg, Bool.and_eq_true, decide_eq_true_eq] at q'
    have g : inB d p.2.1.length = true := inB_in q'.1 (by omega)
    simp only [cond_true, g, chk_true', Bool.true_and]
    exact ⟨trivial, trivial⟩
def turnB (p : Pc) (t : Int) : Bool := pcB p && inRg 0 (p.1 - 1) t
theorem turn_eq {N : Nat} {p : Pc} (hl : p.2.1.length < 4194304) (t : Int) (hN : 4194304 ≤ N) : impl_isTurn N p t = some (turnB p t, ()) := by
  simp only [impl_isTurn, (isProc_eq hl hN).1, Option.bind_some, impl_within_eq, turnB]
  cases h : pcB p with
  | false => rfl
  | true =>
    have := (pcP h).t
    simp only [cond_true, isub_in (show -9223372036854775808 ≤ p.1 - 1 by omega) (by omega), Bool.true_and]
def stepOf (p : Pc) (pair : List Int) (x d : Int) : Int × Int × Int := (upOf p pair x, (upOf p pair x - d, ordOf p x (upOf p pair x) + keepOf p (upOf p pair x - d)))
theorem stepped_eq {N : Nat} {p : Pc} {pair : List Int} {x d : Int} (hp : PcP p) (hq : polAt p pair = true) (hx : -10 ≤ x ∧ x ≤ 10) (hd : askB p d = true) : impl_Process_stepped N p pair x d = some (stepOf p pair x d, ()) ∧ (-10 ≤ (stepOf p pair x d).2.1 ∧ (stepOf p pair x d).2.1 ≤ 10) ∧ (0 ≤ (stepOf p pair x d).2.2 ∧ (stepOf p pair x d).2.2 ≤ 369) := by
  have hw := hp.w
  obtain ⟨u1, u2, u3⟩ := up_bd hq hx
  simp only [askB, inRg, Bool.and_eq_true, decide_eq_true_eq] at hd
  have e : isub .i64 (upOf p pair x) d = upOf p pair x - d := isub_in (by omega) (by omega)
  obtain ⟨o1, _, o3, o4⟩ := ord_eq (N := N) hp u1 hx.1 u2
  obtain ⟨k1, _, k3, k4⟩ := keep_eq (N := N) hp (x := upOf p pair x - d) (by omega) (by omega)
  have e2 : iadd .i64 (ordOf p x (upOf p pair x)) (keepOf p (upOf p pair x - d)) = ordOf p x (upOf p pair x) + keepOf p (upOf p pair x - d) := iadd_in (by omega) (by omega)
  refine ⟨?_, ⟨?_, ?_⟩, ?_, ?_⟩
  · simp only [impl_Process_stepped, (up_eq (N := N) (show p.2.1.length ≤ 5 by omega) pair x).1, Option.bind_some, o1, e, k1, e2, stepOf]
  all_goals (simp only [stepOf]; omega)
def slOf (p : Pc) (levels : Pl) (t x d : Int) : Int × Int × Int × Bool :=
  bif turnB p t && (polB p levels && (inRg (-10) 10 x && askB p d)) then ((stepOf p (gd levels t.toNat []) x d).1, ((stepOf p (gd levels t.toNat []) x d).2.1, ((stepOf p (gd levels t.toNat []) x d).2.2, true))) else (0, (0, (0, false)))
theorem pol_at {p : Pc} {levels : Pl} (h : polB p levels = true) : (levels.length : Int) = p.1 ∧ ∀ t, t < levels.length → polAt p (gd levels t []) = true := by
  simp only [polB, Bool.and_eq_true, decide_eq_true_eq] at h
  exact ⟨h.2, rangeB.1 h.1⟩
theorem impl_StepLevel_eq {N : Nat} {p : Pc} {levels : Pl} (hl : p.2.1.length < 4194304) (hv : levels.length < 4194304) (t x d : Int) (hN : 4194304 ≤ N) : impl_StepLevel N p levels t x d = some (slOf p levels t x d, ()) := by
  simp only [impl_StepLevel, turn_eq hl t hN, Option.bind_some, bif_not, slOf]
  cases h1 : turnB p t with
  | false => rfl
  | true =>
    have h1' := h1
    simp only [turnB, Bool.and_eq_true, inRg, decide_eq_true_eq] at h1'
    have hp := pcP h1'.1
    simp only [cond_true, impl_isPolicy_eq hp hv hN, Option.bind_some, Bool.true_and]
    cases h2 : polB p levels with
    | false => rfl
    | true =>
      simp only [cond_true, (level_eq _).1, Option.bind_some, Bool.true_and]
      cases h3 : inRg (-10) 10 x with
      | false => rfl
      | true =>
        simp only [cond_true, (asked_eq (N := N) hp.w.2 d).1, Option.bind_some, Bool.true_and]
        cases h4 : askB p d with
        | false => rfl
        | true =>
          obtain ⟨g1, g2⟩ := pol_at h2
          have ht : t.toNat < levels.length := by omega
          simp only [inRg, Bool.and_eq_true, decide_eq_true_eq] at h3
          simp only [cond_true, show inB t levels.length = true from inB_in h1'.2.1 (by omega), chk_true', pair_gd levels ht, (stepped_eq (N := N) hp (g2 _ ht) h3 h4).1, Option.bind_some]
theorem spec_StepLevel_eq {N : Nat} {p : Pc} {levels : Pl} (hl : p.2.1.length < 4194304) (hv : levels.length < 4194304) (t x d : Int) (hN : 4194304 ≤ N) : spec_StepLevel N p levels t x d = some (slOf p levels t x d, ()) := by
  have et : spec_l6Turn N p t = some (turnB p t, ()) := by
    simp only [spec_l6Turn, (isProc_eq hl hN).2, Option.bind_some, spec_l1In_eq, turnB]
    cases h : pcB p with
    | false => rfl
    | true =>
      have := (pcP h).t
      simp only [cond_true, isub_in (show -9223372036854775808 ≤ p.1 - 1 by omega) (by omega), Bool.true_and]
  simp only [spec_StepLevel, et, Option.bind_some, bif_not, slOf]
  cases h1 : turnB p t with
  | false => rfl
  | true =>
    have h1' := h1
    simp only [turnB, Bool.and_eq_true, inRg, decide_eq_true_eq] at h1'
    have hp := pcP h1'.1
    have hw := hp.w
    simp only [cond_true, spec_l6Policy_eq hp hv hN, Option.bind_some, Bool.true_and]
    cases h2 : polB p levels with
    | false => rfl
    | true =>
      simp only [cond_true, (level_eq _).2, Option.bind_some, Bool.true_and]
      cases h3 : inRg (-10) 10 x with
      | false => rfl
      | true =>
        simp only [cond_true, (asked_eq (N := N) hp.w.2 d).2, Option.bind_some, Bool.true_and]
        cases h4 : askB p d with
        | false => rfl
        | true =>
          obtain ⟨g1, g2⟩ := pol_at h2
          have ht : t.toNat < levels.length := by omega
          simp only [inRg, Bool.and_eq_true, decide_eq_true_eq] at h3
          have hq := g2 _ ht
          have hd := h4
          simp only [askB, inRg, Bool.and_eq_true, decide_eq_true_eq] at hd
          obtain ⟨u1, u2, u3⟩ := up_bd hq h3
          have e : isub .i64 (upOf p (gd levels t.toNat []) x) d = upOf p (gd levels t.toNat []) x - d := isub_in (by omega) (by omega)
          obtain ⟨_, o2, o3, o4⟩ := ord_eq (N := N) hp u1 h3.1 u2
          obtain ⟨_, k2, k3, k4⟩ := keep_eq (N := N) hp (x := upOf p (gd levels t.toNat []) x - d) (by omega) (by omega)
          have e2 : iadd .i64 (ordOf p x (upOf p (gd levels t.toNat []) x)) (keepOf p (upOf p (gd levels t.toNat []) x - d)) = ordOf p x (upOf p (gd levels t.toNat []) x) + keepOf p (upOf p (gd levels t.toNat []) x - d) := iadd_in (by omega) (by omega)
          simp only [cond_true, show inB t levels.length = true from inB_in h1'.2.1 (by omega), chk_true', pair_gd levels ht, (up_eq (N := N) hw.2 _ x).2, Option.bind_some, o2, e, k2, e2, stepOf]
def lvT (p : Pc) (levels : Pl) (asked : List Int) (x : Int) : Nat → Int
  | 0 => x
  | t + 1 => (stepOf p (gd levels t []) (lvT p levels asked x t) (gd asked t 0)).2.1
def coT (p : Pc) (levels : Pl) (asked : List Int) (x : Int) : Nat → Int
  | 0 => 0
  | t + 1 => coT p levels asked x t + (stepOf p (gd levels t []) (lvT p levels asked x t) (gd asked t 0)).2.2
def trT (p : Pc) (levels : Pl) (asked : List Int) (x : Int) (n : Nat) : List Int := (List.range n).map fun t => lvT p levels asked x (t + 1)
theorem lvT_bd {p : Pc} {levels : Pl} {asked : List Int} {x : Int} (hp : PcP p) (hq : polB p levels = true) (hx : -10 ≤ x ∧ x ≤ 10) : ∀ t, t ≤ levels.length → (∀ i, i < t → askB p (gd asked i 0) = true) → (-10 ≤ lvT p levels asked x t ∧ lvT p levels asked x t ≤ 10) ∧ 0 ≤ coT p levels asked x t ∧ coT p levels asked x t ≤ 369 * (t : Int)
  | 0, _, _ => ⟨hx, by simp [coT]⟩
  | t + 1, ht, ha => by
    obtain ⟨h1, h2, h3⟩ := lvT_bd hp hq hx t (by omega) (fun i hi => ha i (by omega))
    obtain ⟨_, s2, s3, s4⟩ := stepped_eq (N := 0) hp ((pol_at hq).2 t (by omega)) h1 (ha t (by omega))
    refine ⟨s2, ?_⟩
    simp only [coT]; omega
def traceOf (p : Pc) (levels : Pl) (x : Int) (asked : List Int) : List Int × Int × Bool :=
  bif pcB p && (polB p levels && (inRg (-10) 10 x && (decide ((asked.length : Int) ≤ p.1) && (List.range asked.length).all fun t => askB p (gd asked t 0)))) then (trT p levels asked x asked.length, (coT p levels asked x asked.length, true)) else ([], (0, false))
theorem impl_TraceLevels_eq {N : Nat} {p : Pc} {levels : Pl} {asked : List Int} {x : Int} (hl : p.2.1.length < 4194304) (hv : levels.length < 4194304) (hN : 4194304 ≤ N) : impl_TraceLevels N p levels x asked = some (traceOf p levels x asked, ()) := by
  simp only [impl_TraceLevels, (isProc_eq hl hN).1, Option.bind_some, bif_not, traceOf]
  cases h1 : pcB p with
  | false => rfl
  | true =>
    have hp := pcP h1
    have ht5 := hp.t
    simp only [cond_true, impl_isPolicy_eq hp hv hN, Option.bind_some, Bool.true_and]
    cases h2 : polB p levels with
    | false => rfl
    | true =>
      simp only [cond_true, (level_eq _).1, Option.bind_some, Bool.true_and]
      cases h3 : inRg (-10) 10 x with
      | false => rfl
      | true =>
        obtain ⟨g1, g2⟩ := pol_at h2
        simp only [inRg, Bool.and_eq_true, decide_eq_true_eq] at h3
        simp only [cond_true, ilt_eq, len_eq, Bool.true_and]
        by_cases q : p.1 < (asked.length : Int)
        · simp only [q, show ¬ (asked.length : Int) ≤ p.1 by omega, decide_true, decide_false, cond_true, cond_false, Bool.false_and]
        · simp only [q, show (asked.length : Int) ≤ p.1 by omega, decide_true, decide_false, cond_false, Bool.true_and]
          have step : ∀ t, t < asked.length → (∀ i, i < t → askB p (gd asked i 0) = true) → ∀ kx, impl_TraceLevels_B1 N kx levels (lvT p levels asked x t) (coT p levels asked x t) asked (asked.length : Int) (t : Nat) p (trT p levels asked x t) = bif askB p (gd asked t 0) then kx levels (lvT p levels asked x (t + 1)) (coT p levels asked x (t + 1)) asked (asked.length : Int) ((t + 1 : Nat) : Int) p (trT p levels asked x (t + 1)) else some (([], (0, false)), ()) := fun t ht ha kx => by
            have htl : t < levels.length := by omega
            obtain ⟨b1, b2, b3⟩ := lvT_bd hp h2 h3 t (by omega) ha
            simp only [impl_TraceLevels_B1, ilt_eq, Int.ofNat_lt, ht, decide_true, cond_true, inB_true ht, chk_true', Int.toNat_natCast, (asked_eq (N := N) hp.w.2 _).1, Option.bind_some, bif_not]
            cases hk : askB p (gd asked t 0) with
            | false => rfl
            | true =>
              obtain ⟨s1, s2, s3, s4⟩ := stepped_eq (N := N) hp (g2 t htl) b1 hk
              simp only [cond_true, inB_true htl, chk_true', pair_gd levels htl, s1, Option.bind_some, trT, map_range_len, chk_of (fitB_in (n := t + 1) (b := 8) (by omega) (by omega)), iadd_nat (show t < 4611686018427387904 by omega), range_take]
              rw [iadd_in (by omega) (by omega)]
              rfl
          rcases range_cases (fun t => askB p (gd asked t 0)) asked.length with ⟨k1, k2⟩ | ⟨k1, j, k2, k4, k5⟩
          · rw [k1]
            refine impl_TraceLevels_L1_run N (fun _ => levels) (fun t => lvT p levels asked x t) (fun t => coT p levels asked x t) (fun _ => asked) (fun _ => (asked.length : Int)) (fun t => (t : Int)) (fun _ => p) (fun t => trT p levels asked x t) asked.length (fun t ht kx => by rw [step t ht (fun i hi => k2 i (by omega)), k2 t ht]; rfl) (fun kx => ?_) N (by omega)
            simp only [impl_TraceLevels_B1, impl_TraceLevels_K1, ilt_eq, Int.lt_irrefl, decide_false, cond_false, cond_true]
          · rw [k1]
            exact impl_TraceLevels_L1_run N (fun _ => levels) (fun t => lvT p levels asked x t) (fun t => coT p levels asked x t) (fun _ => asked) (fun _ => (asked.length : Int)) (fun t => (t : Int)) (fun _ => p) (fun t => trT p levels asked x t) j (fun t ht kx => by rw [step t (by omega) (fun i hi => k4 i (by omega)), k4 t ht]; rfl) (fun kx => by rw [step j k2 k4, k5]; rfl) N (by omega)
theorem spec_TraceLevels_eq {N : Nat} {p : Pc} {levels : Pl} {asked : List Int} {x : Int} (hl : p.2.1.length < 4194304) (hv : levels.length < 4194304) (hN : 4194304 ≤ N) : spec_TraceLevels N p levels x asked = some (traceOf p levels x asked, ()) := by
  simp only [spec_TraceLevels, (isProc_eq hl hN).2, Option.bind_some, bif_not, traceOf]
  cases h1 : pcB p with
  | false => rfl
  | true =>
    have hp := pcP h1
    have ht5 := hp.t
    simp only [cond_true, spec_l6Policy_eq hp hv hN, Option.bind_some, Bool.true_and]
    cases h2 : polB p levels with
    | false => rfl
    | true =>
      simp only [cond_true, (level_eq _).2, Option.bind_some, Bool.true_and]
      cases h3 : inRg (-10) 10 x with
      | false => rfl
      | true =>
        obtain ⟨g1, g2⟩ := pol_at h2
        simp only [inRg, Bool.and_eq_true, decide_eq_true_eq] at h3
        simp only [cond_true, ilt_eq, len_eq, Bool.true_and]
        by_cases q : p.1 < (asked.length : Int)
        · simp only [q, show ¬ (asked.length : Int) ≤ p.1 by omega, decide_true, decide_false, cond_true, cond_false, Bool.false_and]
        · simp only [q, show (asked.length : Int) ≤ p.1 by omega, decide_true, decide_false, cond_false, Bool.true_and]
          have step : ∀ t, t < asked.length → (∀ i, i < t → askB p (gd asked i 0) = true) → ∀ kx, spec_TraceLevels_B1 N kx levels (lvT p levels asked x t) asked (coT p levels asked x t) (t : Nat) p (trT p levels asked x t) = bif askB p (gd asked t 0) then kx levels (lvT p levels asked x (t + 1)) asked (coT p levels asked x (t + 1)) ((t + 1 : Nat) : Int) p (trT p levels asked x (t + 1)) else some (([], (0, false)), ()) := fun t ht ha kx => by
            have htl : t < levels.length := by omega
            obtain ⟨b1, b2, b3⟩ := lvT_bd hp h2 h3 t (by omega) ha
            have c1 : turnB p (t : Int) = true := by simp only [turnB, h1, inRg, Bool.true_and, Bool.and_eq_true, decide_eq_true_eq]; omega
            have c2 : inRg (-10) 10 (lvT p levels asked x t) = true := by simp only [inRg, Bool.and_eq_true, decide_eq_true_eq]; exact b1
            simp only [spec_TraceLevels_B1, ilt_eq, len_eq, Int.ofNat_lt, ht, decide_true, cond_true, inB_true ht, chk_true', Int.toNat_natCast, spec_StepLevel_eq hl hv _ _ _ hN, Option.bind_some, bif_not, slOf, c1, c2, h2, Bool.true_and]
            cases hk : askB p (gd asked t 0) with
            | false => rfl
            | true =>
              obtain ⟨s1, s2, s3, s4⟩ := stepped_eq (N := N) hp (g2 t htl) b1 hk
              simp only [cond_true, trT, map_range_len, chk_of (fitB_in (n := t + 1) (b := 8) (by omega) (by omega)), iadd_nat (show t < 4611686018427387904 by omega), range_take]
              rw [iadd_in (by omega) (by omega)]
              rfl
          rcases range_cases (fun t => askB p (gd asked t 0)) asked.length with ⟨k1, k2⟩ | ⟨k1, j, k2, k4, k5⟩
          · rw [k1]
            refine spec_TraceLevels_L1_run N (fun _ => levels) (fun t => lvT p levels asked x t) (fun _ => asked) (fun t => coT p levels asked x t) (fun t => (t : Int)) (fun _ => p) (fun t => trT p levels asked x t) asked.length (fun t ht kx => by rw [step t ht (fun i hi => k2 i (by omega)), k2 t ht]; rfl) (fun kx => ?_) N (by omega)
            simp only [spec_TraceLevels_B1, spec_TraceLevels_K1, ilt_eq, len_eq, Int.lt_irrefl, decide_false, cond_false, cond_true]
          · rw [k1]
            exact spec_TraceLevels_L1_run N (fun _ => levels) (fun t => lvT p levels asked x t) (fun _ => asked) (fun t => coT p levels asked x t) (fun t => (t : Int)) (fun _ => p) (fun t => trT p levels asked x t) j (fun t ht kx => by rw [step t (by omega) (fun i hi => k4 i (by omega)), k4 t ht]; rfl) (fun kx => by rw [step j k2 k4, k5]; rfl) N (by omega)
def wordsT (c : UInt8) (f : Nat → List UInt8) (n : Nat) : List UInt8 := Lib.join ((List.range n).map f) [c]
theorem wordsT_zero (c : UInt8) (f : Nat → List UInt8) : wordsT c f 0 = [] := rfl
theorem wordsT_one (c : UInt8) (f : Nat → List UInt8) : wordsT c f 1 = f 0 := by simp [wordsT, Lib.join_one]
theorem wordsT_succ (c : UInt8) (f : Nat → List UInt8) {n : Nat} (h : 0 < n) : wordsT c f (n + 1) = wordsT c f n ++ [c] ++ f n := by
  unfold wordsT
  rw [List.range_succ, List.map_append, List.map_cons, List.map_nil, join_snoc _ _ _ (by simp; omega)]
theorem wordsT_len (c : UInt8) (f : Nat → List UInt8) {k : Nat} : ∀ n, (∀ i, i < n → (f i).length ≤ k) → (wordsT c f n).length ≤ n * (k + 1)
  | 0, _ => by simp [wordsT_zero]
  | n + 1, h => by
    have h1 := wordsT_len c f n (fun i hi => h i (by omega))
    have h2 := h n (by omega)
    have e : (n + 1) * (k + 1) = n * (k + 1) + (k + 1) := by rw [Nat.add_mul]; omega
    by_cases hn : n = 0
    · subst hn; rw [wordsT_one]; omega
    · rw [wordsT_succ c f (by omega)]; simp; omega
theorem strings_Join_words {N : Nat} {c : UInt8} {f : Nat → List UInt8} {n k : Nat} (hn : n < 100000) (hk : k ≤ 1000) (h : ∀ i, i < n → (f i).length ≤ k) : strings_Join N ((List.range n).map fun i => txt (f i)) (txt [c]) = some (txt (wordsT c f n), ()) := by
  have e : ((List.range n).map fun i => txt (f i)).map (·.data.toList) = (List.range n).map f := by rw [List.map_map]; rfl
  have e2 : (txt [c]).data.toList = [c] := rfl
  have h1 := wordsT_len c f n h
  have h2 : n * (k + 1) ≤ 100000 * 1001 := Nat.mul_le_mul (by omega) (by omega)
  have h3 : joinB ((List.range n).map fun i => txt (f i)) (txt [c]) = true := by
    simp only [joinB, e, e2, List.length_map, List.length_range, Bool.and_eq_true, decide_eq_true_eq]
    exact ⟨by omega, by show (wordsT c f n).length ≤ _; omega⟩
  simp only [strings_Join, h3, chk_true', e, e2]
  rfl
theorem numT_len21 {n : Int} (h0 : -1000000000000000000 < n) (h1 : n < 1000000000000000000) : (numT n).length ≤ 21 := Lib.itoa_length_le n (by omega) (by omega)
def pairT (levels : Pl) (t : Nat) : List UInt8 := numT (gd (gd levels t []) 0 0) ++ [47] ++ numT (gd (gd levels t []) 1 0)
def polText (p : Pc) (levels : Pl) : ByteArray × Bool := bif pcB p && polB p levels then (txt (bif decide ((levels.length : Int) = 0) then [110, 111, 110, 101] else wordsT 32 (pairT levels) levels.length), true) else (⟨#[]⟩, false)
theorem pairT_len {p : Pc} {levels : Pl} (hq : polB p levels = true) {t : Nat} (ht : t < levels.length) : (pairT levels t).length ≤ 43 := by
  obtain ⟨a, b, _⟩ := pol_pair ((pol_at hq).2 t ht)
  have h1 := numT_len21 (n := gd (gd levels t []) 0 0) (by omega) (by omega)
  have h2 := numT_len21 (n := gd (gd levels t []) 1 0) (by omega) (by omega)
  simp only [pairT, List.length_append, List.length_cons, List.length_nil]; omega
theorem impl_TextOfPolicy_eq {N : Nat} {p : Pc} {levels : Pl} (hl : p.2.1.length < 4194304) (hv : levels.length < 4194304) (hN : 4194304 ≤ N) : impl_TextOfPolicy N p levels = some (polText p levels, ()) := by
  simp only [impl_TextOfPolicy, (isProc_eq hl hN).1, Option.bind_some, bif_not, polText]
  cases h1 : pcB p with
  | false => rfl
  | true =>
    have hp := pcP h1
    simp only [cond_true, impl_isPolicy_eq hp hv hN, Option.bind_some, Bool.true_and]
    cases h2 : polB p levels with
    | false => rfl
    | true =>
      obtain ⟨g1, g2⟩ := pol_at h2
      have ht5 := hp.t
      have g0 : inB 0 2 = true := inB_in (by omega) (by omega)
      have g3 : inB 1 2 = true := inB_in (by omega) (by omega)
      simp only [cond_true, len_eq]
      refine impl_TextOfPolicy_L1_run N (fun _ => levels) (fun _ => (levels.length : Int)) (fun t => (t : Int)) (fun t => (List.range t).map fun i => txt (pairT levels i)) levels.length (fun t ht kx => ?_) (fun kx => ?_) N (by omega)
      · obtain ⟨a, b, _⟩ := pol_pair (g2 t ht)
        have l1 := numT_len21 (n := gd (gd levels t []) 0 0) (by omega) (by omega)
        have l2 := numT_len21 (n := gd (gd levels t []) 1 0) (by omega) (by omega)
        simp only [impl_TextOfPolicy_B1, ilt_eq, Int.ofNat_lt, ht, decide_true, cond_true, inB_true ht, chk_true', g0, g3, Int.toNat_natCast, pair_gd levels ht, strconv_Itoa_eq (n := gd (gd levels t []) 0 0) (by omega) (by omega), strconv_Itoa_eq (n := gd (gd levels t []) 1 0) (by omega) (by omega), Option.bind_some, show (⟨#[47]⟩ : ByteArray) = txt [47] from rfl, map_range_len]
        rw [sfit_in (by rw [size_bts, size_bts, bts_txt, bts_txt]; simp; omega), chk_true', scat_txt, sfit_in (by rw [size_bts, size_bts, bts_txt, bts_txt]; simp; omega), chk_true', scat_txt, chk_of (fitB_in (n := t + 1) (b := 16) (by omega) (by omega)), iadd_nat (show t < 4611686018427387904 by omega)]
        rw [List.range_succ, List.map_append, List.map_cons, List.map_nil]
        rfl
      · simp only [impl_TextOfPolicy_B1, impl_TextOfPolicy_K1, ilt_eq, Int.lt_irrefl, decide_false, cond_false, ieq_eq, len_eq, map_range_len, show (⟨#[32]⟩ : ByteArray) = txt [32] from rfl]
        rw [strings_Join_words (k := 43) (by omega) (by omega) (fun i hi => pairT_len h2 hi)]
        cases decide ((levels.length : Int) = 0) <;> rfl
theorem spec_TextOfPolicy_eq {N : Nat} {p : Pc} {levels : Pl} (hl : p.2.1.length < 4194304) (hv : levels.length < 4194304) (hN : 4194304 ≤ N) : spec_TextOfPolicy N p levels = some (polText p levels, ()) := by
  simp only [spec_TextOfPolicy, (isProc_eq hl hN).2, Option.bind_some, bif_not, polText]
  cases h1 : pcB p with
  | false => rfl
  | true =>
    have hp := pcP h1
    simp only [cond_true, spec_l6Policy_eq hp hv hN, Option.bind_some, Bool.true_and]
    cases h2 : polB p levels with
    | false => rfl
    | true =>
      obtain ⟨g1, g2⟩ := pol_at h2
      have ht5 := hp.t
      have g0 : inB 0 2 = true := inB_in (by omega) (by omega)
      have g3 : inB 1 2 = true := inB_in (by omega) (by omega)
      simp only [cond_true, show (⟨#[]⟩ : ByteArray) = txt [] from rfl]
      refine spec_TextOfPolicy_L1_run N (fun _ => levels) (fun t => txt (wordsT 32 (pairT levels) t)) (fun t => (t : Int)) levels.length (fun t ht kx => ?_) (fun kx => ?_) N (by omega)
      · obtain ⟨a, b, _⟩ := pol_pair (g2 t ht)
        have l1 := numT_len21 (n := gd (gd levels t []) 0 0) (by omega) (by omega)
        have l2 := numT_len21 (n := gd (gd levels t []) 1 0) (by omega) (by omega)
        have l3 := wordsT_len 32 (pairT levels) (k := 43) t (fun i hi => pairT_len h2 (by omega))
        have hK : ∀ s : List UInt8, s.length ≤ 1000 → spec_TextOfPolicy_K1 N kx levels (txt s) (t : Int) = kx levels (txt (s ++ pairT levels t)) ((t + 1 : Nat) : Int) := fun s hs => by
          simp only [spec_TextOfPolicy_K1, inB_true ht, chk_true', g0, g3, Int.toNat_natCast, pair_gd levels ht, spec_l1Num_eq (n := gd (gd levels t []) 0 0) (by omega) (by omega) hN, spec_l1Num_eq (n := gd (gd levels t []) 1 0) (by omega) (by omega) hN, Option.bind_some, show (⟨#[47]⟩ : ByteArray) = txt [47] from rfl, scat_txt]
          rw [sfit_in (by rw [size_bts, size_bts, bts_txt, bts_txt]; omega), chk_true', sfit_in (by rw [size_bts, size_bts, bts_txt, bts_txt]; simp; omega), chk_true', sfit_in (by rw [size_bts, size_bts, bts_txt, bts_txt]; simp; omega), chk_true', iadd_nat (show t < 4611686018427387904 by omega)]
          simp only [pairT, List.append_assoc]
        simp only [spec_TextOfPolicy_B1, ilt_eq, len_eq, Int.ofNat_lt, ht, decide_true, cond_true, show (⟨#[32]⟩ : ByteArray) = txt [32] from rfl]
        by_cases h0 : t = 0
        · subst h0
          simp only [show ¬ (0 : Int) < ((0 : Nat) : Int) by omega, decide_false, cond_false]
          rw [hK _ (by simp [wordsT_zero]), wordsT_zero, Nat.zero_add, wordsT_one]; rfl
        · have h3 : t ≤ 5 := by omega
          simp only [show (0 : Int) < (t : Int) by omega, decide_true, cond_true, scat_txt]
          rw [sfit_in (by rw [size_bts, size_bts, bts_txt, bts_txt]; simp; omega), chk_true', hK _ (by simp; omega), wordsT_succ 32 _ (show 0 < t by omega)]
      · simp only [spec_TextOfPolicy_B1, spec_TextOfPolicy_K2, ilt_eq, Int.lt_irrefl, decide_false, cond_false, ieq_eq, len_eq, show (⟨#[110, 111, 110, 101]⟩ : ByteArray) = txt [110, 111, 110, 101] from rfl]
        cases decide ((levels.length : Int) = 0) <;> rfl
theorem mul_ab {w x m M : Int} (hw : 0 ≤ w) (hwm : w ≤ m) (hx : -M ≤ x ∧ x ≤ M) (hM : 0 ≤ M) : -(m * M) ≤ w * x ∧ w * x ≤ m * M := by
  have h1 := Int.mul_le_mul_of_nonneg_left hx.1 hw
  have h2 := Int.mul_le_mul_of_nonneg_left hx.2 hw
  have h3 := Int.mul_le_mul_of_nonneg_right hwm hM
  rw [Int.mul_neg] at h1
  exact ⟨by omega, by omega⟩
theorem whole_bd {p : Pc} (hp : PcP p) : 0 ≤ p.2.1.sum ∧ p.2.1.sum ≤ 20 := by
  have hw := hp.w
  have h := psum_bd hp.b p.2.1.length (Nat.le_refl _)
  rw [psum_all] at h
  omega
theorem pow_ok {N : Nat} {p : Pc} (hp : PcP p) {n : Nat} (hn : n ≤ 5) (hN : 4194304 ≤ N) : spec_l6Power N p (n : Int) = some (powI p.2.1.sum n, ()) ∧ 0 ≤ powI p.2.1.sum n ∧ powI p.2.1.sum n ≤ 3200000 := by
  have hw := hp.w
  obtain ⟨s0, s1⟩ := whole_bd hp
  refine ⟨?_, powI_le s0 s1 hn⟩
  simp only [spec_l6Power, spec_l2Sum_eq hp.b (by omega) (show p.2.1.length < 4194304 by omega) hN, Option.bind_some]
  refine spec_l6Power_L1_run N (fun _ => (n : Int)) (fun i => powI p.2.1.sum i) (fun _ => p.2.1.sum) (fun i => (i : Int)) n (fun i hi kx => ?_) (fun kx => ?_) N (by omega)
  · obtain ⟨q0, q1⟩ := powI_le s0 s1 (show i + 1 ≤ 5 by omega)
    simp only [powI] at q0 q1
    simp only [spec_l6Power_B1, ilt_eq, Int.ofNat_lt, hi, decide_true, cond_true, imul_in (show -9223372036854775808 ≤ powI p.2.1.sum i * p.2.1.sum by omega) (by omega), iadd_nat (show i < 4611686018427387904 by omega), powI]
  · simp only [spec_l6Power_B1, spec_l6Power_K1, ilt_eq, Int.lt_irrefl, decide_false, cond_false]
structure R21 (B : Int) (r : List Int) : Prop where
  l : r.length = 21
  b : ∀ j, j < 21 → -B ≤ gd r j 0 ∧ gd r j 0 ≤ B
def aftI (p : Pc) (next : List Int) (y : Int) (n : Nat) : Nat → Int
  | 0 => 0
  | d + 1 => aftI p next y n d + gd p.2.1 d 0 * (keepOf p (y - (d : Int)) * powI p.2.1.sum (n - 1) + gd next (y - (d : Int) + 10).toNat 0)
theorem aft_in {p : Pc} (hp : PcP p) {next : List Int} {B : Int} (hB : 0 ≤ B) (hr : R21 B next) {y : Int} {n d : Nat} (hd : d < p.2.1.length) (hn : 1 ≤ n ∧ n ≤ 5) (hy : (p.2.1.length : Int) - 11 ≤ y ∧ y ≤ 10) :
    (-(B + 300000000) ≤ keepOf p (y - (d : Int)) * powI p.2.1.sum (n - 1) + gd next (y - (d : Int) + 10).toNat 0 ∧ keepOf p (y - (d : Int)) * powI p.2.1.sum (n - 1) + gd next (y - (d : Int) + 10).toNat 0 ≤ B + 300000000) ∧ (0 ≤ keepOf p (y - (d : Int)) * powI p.2.1.sum (n - 1) ∧ keepOf p (y - (d : Int)) * powI p.2.1.sum (n - 1) ≤ 300000000) := by
  have hw := hp.w
  obtain ⟨s0, s1⟩ := whole_bd hp
  obtain ⟨_, _, k0, k1⟩ := keep_eq (N := 0) hp (x := y - (d : Int)) (by omega) (by omega)
  obtain ⟨q0, q1⟩ := powI_le s0 s1 (show n - 1 ≤ 5 by omega)
  have h1 := Int.mul_nonneg k0 q0
  have h2 := Int.mul_le_mul k1 q1 q0 (by omega)
  have h3 := hr.b (y - (d : Int) + 10).toNat (by omega)
  omega
theorem aft_bd {p : Pc} (hp : PcP p) {next : List Int} {B : Int} (hB : 0 ≤ B) (hr : R21 B next) {y : Int} {n : Nat} (hn : 1 ≤ n ∧ n ≤ 5) (hy : (p.2.1.length : Int) - 11 ≤ y ∧ y ≤ 10) : ∀ d, d ≤ p.2.1.length → -(4 * (d : Int) * (B + 300000000)) ≤ aftI p next y n d ∧ aftI p next y n d ≤ 4 * (d : Int) * (B + 300000000)
  | 0, _ => by simp [aftI]
  | d + 1, hd => by
    obtain ⟨h1, h2⟩ := aft_bd hp hB hr hn hy d (by omega)
    obtain ⟨h3, _⟩ := aft_in hp hB hr (show d < p.2.1.length by omega) hn hy
    have hw := hp.b d (by omega)
    obtain ⟨h4, h5⟩ := mul_ab hw.1 hw.2 h3 (by omega)
    have e : 4 * ((d + 1 : Nat) : Int) * (B + 300000000) = 4 * (d : Int) * (B + 300000000) + 4 * (B + 300000000) := by
      rw [show 4 * ((d + 1 : Nat) : Int) = 4 * (d : Int) + 4 by omega, Int.add_mul]
    simp only [aftI]
    omega
theorem after_ok {N : Nat} {p : Pc} (hp : PcP p) {next : List Int} {B : Int} (hB : 0 ≤ B ∧ B ≤ 1700000000000000) (hr : R21 B next) {y : Int} {n : Nat} (hn : 1 ≤ n ∧ n ≤ 5) (hy : (p.2.1.length : Int) - 11 ≤ y ∧ y ≤ 10) (hN : 4194304 ≤ N) :
    ∃ v, spec_l6After N p next y (n : Int) = some (v, ()) ∧ -(20 * B + 6000000000) ≤ v ∧ v ≤ 20 * B + 6000000000 := by
  have hw := hp.w
  have hb := aft_bd hp hB.1 hr hn hy
  refine ⟨aftI p next y n p.2.1.length, ?_, ?_⟩
  · simp only [spec_l6After]
    refine spec_l6After_L1_run N (fun _ => next) (fun _ => y) (fun _ => (n : Int)) (fun d => aftI p next y n d) (fun d => (d : Int)) (fun _ => p) p.2.1.length (fun d hd kx => ?_) (fun kx => ?_) N (by omega)
    · have e1 : isub .i64 y (d : Int) = y - (d : Int) := isub_in (by omega) (by omega)
      have e2 : isub .i64 (n : Int) 1 = ((n - 1 : Nat) : Int) := by rw [isub_in (by omega) (by omega)]; omega
      have e3 : iadd .i64 (y - (d : Int)) 10 = y - (d : Int) + 10 := iadd_in (by omega) (by omega)
      obtain ⟨_, k1, _, _⟩ := keep_eq (N := N) hp (x := y - (d : Int)) (by omega) (by omega)
      obtain ⟨p1, p2, p3⟩ := pow_ok (N := N) hp (show n - 1 ≤ 5 by omega) hN
      obtain ⟨h3, h4⟩ := aft_in hp hB.1 hr hd hn hy
      have hwd := hp.b d hd
      obtain ⟨h5, h6⟩ := mul_ab hwd.1 hwd.2 h3 (by omega)
      have h7 := hb d (by omega)
      have h8 := hb (d + 1) (by omega)
      simp only [aftI] at h8
      have hd5 : 4 * (d : Int) * (B + 300000000) ≤ 4 * 5 * (B + 300000000) := Int.mul_le_mul_of_nonneg_right (by omega) (by omega)
      have e4 : imul .i64 (keepOf p (y - (d : Int))) (powI p.2.1.sum (n - 1)) = keepOf p (y - (d : Int)) * powI p.2.1.sum (n - 1) := imul_in (by omega) (by omega)
      have e5 : iadd .i64 (keepOf p (y - (d : Int)) * powI p.2.1.sum (n - 1)) (gd next (y - (d : Int) + 10).toNat 0) = keepOf p (y - (d : Int)) * powI p.2.1.sum (n - 1) + gd next (y - (d : Int) + 10).toNat 0 := iadd_in (by omega) (by omega)
      simp only [spec_l6After_B1, ilt_eq, len_eq, Int.ofNat_lt, hd, decide_true, cond_true, inB_true hd, chk_true', e1, k1, Option.bind_some, e2, p1, e3, show inB (y - (d : Int) + 10) next.length = true from inB_in (by omega) (by rw [hr.l]; omega), e4, e5, Int.toNat_natCast, iadd_nat (show d < 4611686018427387904 by omega), aftI]
      generalize keepOf p (y - (d : Int)) * powI p.2.1.sum (n - 1) + gd next (y - (d : Int) + 10).toNat 0 = z at h3 h5 h6 h8 ⊢
      rw [imul_in (by omega) (by omega), iadd_in (by omega) (by omega)]
    · simp only [spec_l6After_B1, spec_l6After_K1, ilt_eq, len_eq, Int.lt_irrefl, decide_false, cond_false]
  · have h := hb p.2.1.length (Nat.le_refl _)
    have hd5 : 4 * (p.2.1.length : Int) * (B + 300000000) ≤ 4 * 5 * (B + 300000000) := Int.mul_le_mul_of_nonneg_right (by omega) (by omega)
    omega
theorem best_loop {N : Nat} {p : Pc} (hp : PcP p) {next : List Int} {B : Int} (hB : 0 ≤ B ∧ B ≤ 1700000000000000) (hr : R21 B next) {x : Int} {n : Nat} (hn : 1 ≤ n ∧ n ≤ 5) (hx : -10 ≤ x ∧ x ≤ 10) (hN : 4194304 ≤ N) : ∀ (d : Nat) (y best least : Int), y + 1 = imax x ((p.2.1.length : Int) - 11) + (d : Int) → y ≤ 10 → -(20 * B + 10000000000) ≤ least ∧ least ≤ 20 * B + 10000000000 →
    ∃ b v, (∀ m, d < m → spec_l6Best_L1 N m next x (n : Int) best least y p = some ((b, v), ())) ∧ -(20 * B + 10000000000) ≤ v ∧ v ≤ 20 * B + 10000000000 := by
  have hw := hp.w
  have hmx : imax x ((p.2.1.length : Int) - 11) = x ∧ (p.2.1.length : Int) - 11 ≤ x ∨ imax x ((p.2.1.length : Int) - 11) = (p.2.1.length : Int) - 11 ∧ x ≤ (p.2.1.length : Int) - 11 := by unfold imax; split <;> omega
  have hlo : spec_l6Floor N p = some ((p.2.1.length : Int) - 11, ()) := (floor_eq (by omega)).2
  have hmo : spec_l1Most N x ((p.2.1.length : Int) - 11) = some (imax x ((p.2.1.length : Int) - 11), ()) := by
    simp only [spec_l1Most, ilt_eq]
    by_cases q : (p.2.1.length : Int) - 11 < x
    · rw [decide_eq_true q, cond_true]; congr 2; omega
    · rw [decide_eq_false q, cond_false]; congr 2; omega
  generalize imax x ((p.2.1.length : Int) - 11) = lo at hmx hmo
  intro d
  induction d with
  | zero =>
    intro y best least hy hy2 hl
    refine ⟨best, least, fun m hm => ?_, hl⟩
    obtain ⟨m, rfl⟩ : ∃ q, m = q + 1 := ⟨m - 1, by omega⟩
    rw [spec_l6Best_L1_succ]
    simp only [spec_l6Best_B1, hlo, hmo, Option.bind_some, ile_eq, show ¬ lo ≤ y by omega, decide_false, cond_false, spec_l6Best_K1]
  | succ d ih =>
    intro y best least hy hy2 hl
    obtain ⟨v, e1, v1, v2⟩ := after_ok (N := N) hp hB hr hn (y := y) (by omega) hN
    obtain ⟨_, o1, o2, o3⟩ := ord_eq (N := N) hp (x := x) (y := y) (by omega) (by omega) (by omega)
    obtain ⟨p1, p2, p3⟩ := pow_ok (N := N) hp hn.2 hN
    have h1 := Int.mul_nonneg o2 p2
    have h2 := Int.mul_le_mul o3 p3 p2 (by omega)
    have e2 : imul .i64 (ordOf p x y) (powI p.2.1.sum n) = ordOf p x y * powI p.2.1.sum n := imul_in (by omega) (by omega)
    have e3 : iadd .i64 (ordOf p x y * powI p.2.1.sum n) v = ordOf p x y * powI p.2.1.sum n + v := iadd_in (by omega) (by omega)
    have e4 : isub .i64 y 1 = y - 1 := isub_in (by omega) (by omega)
    have base : ∀ m, spec_l6Best_L1 N (m + 1) next x (n : Int) best least y p = bif decide (y = 10) then spec_l6Best_L1 N m next x (n : Int) y (ordOf p x y * powI p.2.1.sum n + v) (y - 1) p else bif decide (ordOf p x y * powI p.2.1.sum n + v ≤ least) then spec_l6Best_L1 N m next x (n : Int) y (ordOf p x y * powI p.2.1.sum n + v) (y - 1) p else spec_l6Best_L1 N m next x (n : Int) best least (y - 1) p := fun m => by
      rw [spec_l6Best_L1_succ]
      simp only [spec_l6Best_B1, hlo, hmo, Option.bind_some, ile_eq, show lo ≤ y by omega, decide_true, cond_true, o1, p1, e1, e2, e3, e4, ieq_eq]
    obtain ⟨b1, w1, f1, g1⟩ := ih (y - 1) y (ordOf p x y * powI p.2.1.sum n + v) (by omega) (by omega) ⟨by omega, by omega⟩
    obtain ⟨b2, w2, f2, g2⟩ := ih (y - 1) best least (by omega) (by omega) hl
    by_cases q : y = 10 ∨ ordOf p x y * powI p.2.1.sum n + v ≤ least
    · refine ⟨b1, w1, fun m hm => ?_, g1⟩
      obtain ⟨m, rfl⟩ : ∃ q, m = q + 1 := ⟨m - 1, by omega⟩
      rw [base m]
      by_cases q1 : y = 10
      · rw [decide_eq_true q1, cond_true]; exact f1 m (by omega)
      · rw [decide_eq_false q1, cond_false, decide_eq_true (show ordOf p x y * powI p.2.1.sum n + v ≤ least by omega), cond_true]; exact f1 m (by omega)
    · refine ⟨b2, w2, fun m hm => ?_, g2⟩
      obtain ⟨m, rfl⟩ : ∃ q, m = q + 1 := ⟨m - 1, by omega⟩
      rw [base m, decide_eq_false (show ¬ y = 10 by omega), cond_false, decide_eq_false (show ¬ ordOf p x y * powI p.2.1.sum n + v ≤ least by omega), cond_false]
      exact f2 m (by omega)
theorem best_ok {N : Nat} {p : Pc} (hp : PcP p) {next : List Int} {B : Int} (hB : 0 ≤ B ∧ B ≤ 1700000000000000) (hr : R21 B next) {x : Int} {n : Nat} (hn : 1 ≤ n ∧ n ≤ 5) (hx : -10 ≤ x ∧ x ≤ 10) (hN : 4194304 ≤ N) :
    ∃ b v, spec_l6Best N p next x (n : Int) = some ((b, v), ()) ∧ -(20 * B + 10000000000) ≤ v ∧ v ≤ 20 * B + 10000000000 := by
  have hw := hp.w
  have hmx : imax x ((p.2.1.length : Int) - 11) = x ∨ imax x ((p.2.1.length : Int) - 11) = (p.2.1.length : Int) - 11 := by unfold imax; split <;> omega
  obtain ⟨b, v, e, h⟩ := best_loop (N := N) hp hB hr hn hx hN (11 - imax x ((p.2.1.length : Int) - 11)).toNat 10 0 0 (by omega) (by omega) (by omega)
  exact ⟨b, v, by simp only [spec_l6Best]; exact e N (by omega), h⟩
structure Tab (k : Nat) (out : Pl) : Prop where
  l : out.length = k + 1
  r : ∀ i, i ≤ k → R21 (worB (k - i)) (gd out i [])
theorem row_loop {N : Nat} {p : Pc} (hp : PcP p) {k : Nat} {out : Pl} (ht : Tab k out) (hk : k + 1 ≤ 5) {t : Int} (htk : p.1 - t = ((k + 1 : Nat) : Int)) (ht0 : 0 ≤ t) (hN : 4194304 ≤ N) : ∀ (d : Nat) (x : Int) (row : List Int), x + (d : Int) = 11 → d ≤ 21 → row.length + d = 21 → (∀ j, j < row.length → -(worB (k + 1)) ≤ gd row j 0 ∧ gd row j 0 ≤ worB (k + 1)) →
    ∃ out', Tab (k + 1) out' ∧ ∀ (kx : Int → Pc → Pl → Option (Pl × Unit)) m, d < m → spec_l6Worths_L1 N m kx t x p out row = kx (t - 1) p out' := by
  have hpt := hp.t
  intro d
  induction d with
  | zero =>
    intro x row hx hd hl hb
    refine ⟨[row] ++ out, ⟨by simp [ht.l], fun i hi => ?_⟩, fun kx m hm => ?_⟩
    · cases i with
      | zero => exact ⟨by simpa [gd] using hl, fun j hj => by simpa [gd] using hb j (by omega)⟩
      | succ i => rw [show k + 1 - (i + 1) = k - i by omega]; have := ht.r i (by omega); simpa [gd] using this
    · obtain ⟨m, rfl⟩ : ∃ q, m = q + 1 := ⟨m - 1, by omega⟩
      rw [spec_l6Worths_L1_succ]
      simp only [spec_l6Worths_B1, ile_eq, show ¬ x ≤ 10 by omega, decide_false, cond_false, spec_l6Worths_K1, chk_of (fitB_in (n := 1 + out.length) (b := 24) (by rw [ht.l]; omega) (by omega)), isub_in (show -9223372036854775808 ≤ t - 1 by omega) (by omega)]
  | succ d ih =>
    intro x row hx hd hl hb
    have hwor := worB_le (n := k) (by omega)
    obtain ⟨b, v, e1, v1⟩ := best_ok (N := N) hp hwor (next := gd out 0 []) (ht.r 0 (by omega)) (x := x) (n := k + 1) (by omega) (by omega) hN
    obtain ⟨out', f1, f2⟩ := ih (x + 1) (row ++ [v]) (by omega) (by omega) (by simp; omega) (fun j hj => by
      rw [List.length_append, List.length_singleton] at hj
      by_cases q : j < row.length
      · have : gd (row ++ [v]) j 0 = gd row j 0 := by simp [gd, List.getD_eq_getElem?_getD, List.getElem?_append_left q]
        rw [this]; exact hb j q
      · have : gd (row ++ [v]) j 0 = v := by obtain rfl : j = row.length := by omega
                                             simp [gd]
        rw [this]; simp only [worB]; omega)
    refine ⟨out', f1, fun kx m hm => ?_⟩
    obtain ⟨m, rfl⟩ : ∃ q, m = q + 1 := ⟨m - 1, by omega⟩
    rw [spec_l6Worths_L1_succ]
    simp only [spec_l6Worths_B1, ile_eq, show x ≤ 10 by omega, decide_true, cond_true, show inB 0 out.length = true from inB_in (by omega) (by rw [ht.l]; omega), chk_true', isub_in (show -9223372036854775808 ≤ p.1 - t by omega) (by omega), htk, e1, Option.bind_some, chk_of (fitB_in (n := row.length + 1) (b := 8) (by omega) (by omega)), iadd_in (show -9223372036854775808 ≤ x + 1 by omega) (by omega)]
    exact f2 kx m (by omega)
theorem worths_loop {N : Nat} {p : Pc} (hp : PcP p) (hN : 4194304 ≤ N) : ∀ (d k : Nat) (out : Pl) (t : Int), t + 1 = (d : Int) → p.1 = ((k + d : Nat) : Int) → Tab k out → ∃ out' : Pl, Tab (k + d) out' ∧ ∀ m, d < m → spec_l6Worths_L2 N m t p out = some (out', ()) := by
  have hpt := hp.t
  intro d
  induction d with
  | zero =>
    intro k out t h1 h2 ht
    refine ⟨out, ht, fun m hm => ?_⟩
    obtain ⟨m, rfl⟩ : ∃ q, m = q + 1 := ⟨m - 1, by omega⟩
    rw [spec_l6Worths_L2_succ]
    simp only [spec_l6Worths_B2, ile_eq, show ¬ 0 ≤ t by omega, decide_false, cond_false, spec_l6Worths_K2]
  | succ d ih =>
    intro k out t h1 h2 ht
    obtain ⟨out1, t1, f1⟩ := row_loop (N := N) hp ht (by omega) (t := t) (by omega) (by omega) hN 21 (-10) [] (by omega) (by omega) (by simp) (fun j hj => by simp at hj)
    obtain ⟨out2, t2, f2⟩ := ih (k + 1) out1 (t - 1) (by omega) (by omega) t1
    refine ⟨out2, by rw [show k + (d + 1) = k + 1 + d by omega]; exact t2, fun m hm => ?_⟩
    obtain ⟨m, rfl⟩ : ∃ q, m = q + 1 := ⟨m - 1, by omega⟩
    rw [spec_l6Worths_L2_succ]
    simp only [spec_l6Worths_B2, ile_eq, show 0 ≤ t by omega, decide_true, cond_true]
    rw [f1 _ N (by omega)]
    exact f2 m (by omega)
theorem worths_ok {N : Nat} {p : Pc} (hp : PcP p) (hN : 4194304 ≤ N) : ∃ out : Pl, spec_l6Worths N p = some (out, ()) ∧ Tab p.1.toNat out := by
  have hpt := hp.t
  obtain ⟨out, h1, h2⟩ := worths_loop (N := N) hp hN p.1.toNat 0 [List.replicate 21 0] (p.1 - 1) (by omega) (by omega) ⟨rfl, fun i hi => by
    obtain rfl : i = 0 := by omega
    refine ⟨by simp [gd], fun j hj => ?_⟩
    have : gd (gd [List.replicate 21 (0 : Int)] 0 []) j 0 = 0 := by
      show gd (List.replicate 21 (0 : Int)) j 0 = 0
      simp only [gd, List.getD_eq_getElem?_getD, List.getElem?_replicate]
      split <;> rfl
    rw [this]; simp [worB]⟩
  refine ⟨out, ?_, by simpa using h1⟩
  simp only [spec_l6Worths, show mkB 21 8 = true from mkB_in (n := 21) (by omega) (by omega), chk_true', isub_in (show -9223372036854775808 ≤ p.1 - 1 by omega) (by omega)]
  exact h2 N (by omega)
theorem bill_ok {N : Nat} {p : Pc} (hp : PcP p) {next : List Int} {B : Int} (hB : 0 ≤ B ∧ B ≤ 1700000000000000) (hr : R21 B next) {y : Int} {n : Nat} (hn : 1 ≤ n ∧ n ≤ 5) (hy : (p.2.1.length : Int) - 11 ≤ y ∧ y ≤ 10) (hN : 4194304 ≤ N) :
    ∃ v, spec_l6Bill N p next y (n : Int) = some (v, ()) ∧ -100000000000000000 ≤ v ∧ v ≤ 100000000000000000 := by
  have hw := hp.w
  have hk := hp.k
  obtain ⟨v, e1, v1, v2⟩ := after_ok (N := N) hp hB hr hn (y := y) hy hN
  obtain ⟨p1, p2, p3⟩ := pow_ok (N := N) hp hn.2 hN
  obtain ⟨a1, a2⟩ := mul_ab hk.1 hk.2 (show -10 ≤ y ∧ y ≤ 10 by omega) (by omega)
  have e2 : imul .i64 p.2.2.2.1 y = p.2.2.2.1 * y := imul_in (by omega) (by omega)
  obtain ⟨b1, b2⟩ := mul_ab p2 p3 (show -90 ≤ p.2.2.2.1 * y ∧ p.2.2.2.1 * y ≤ 90 by omega) (by omega)
  rw [Int.mul_comm (powI p.2.1.sum n) (p.2.2.2.1 * y)] at b1 b2
  have e3 : imul .i64 (p.2.2.2.1 * y) (powI p.2.1.sum n) = p.2.2.2.1 * y * powI p.2.1.sum n := imul_in (by omega) (by omega)
  refine ⟨p.2.2.2.1 * y * powI p.2.1.sum n + v, ?_, by omega, by omega⟩
  simp only [spec_l6Bill, p1, e1, Option.bind_some, e2, e3]
  rw [iadd_in (by omega) (by omega)]
theorem bills_loop {N : Nat} {p : Pc} (hp : PcP p) {k : Nat} {table : Pl} (ht : Tab k table) (hk : p.1 = (k : Int)) {t : Nat} (htk : t < k) (hN : 4194304 ≤ N) : ∀ (d : Nat) (y : Int) (out : List Int), y + (d : Int) = 11 → (p.2.1.length : Int) - 11 ≤ y → out.length + d ≤ 100 → (∀ j, j < out.length → -100000000000000000 ≤ gd out j 0 ∧ gd out j 0 ≤ 100000000000000000) →
    ∃ bills : List Int, (∀ m, d < m → spec_l6Bills_L1 N m table (t : Int) y p out = some (bills, ())) ∧ bills.length = out.length + d ∧ ∀ j, j < bills.length → -100000000000000000 ≤ gd bills j 0 ∧ gd bills j 0 ≤ 100000000000000000 := by
  have hpt := hp.t
  have hw := hp.w
  intro d
  induction d with
  | zero =>
    intro y out hy hf hl hb
    refine ⟨out, fun m hm => ?_, by omega, hb⟩
    obtain ⟨m, rfl⟩ : ∃ q, m = q + 1 := ⟨m - 1, by omega⟩
    rw [spec_l6Bills_L1_succ]
    simp only [spec_l6Bills_B1, ile_eq, show ¬ y ≤ 10 by omega, decide_false, cond_false, spec_l6Bills_K1]
  | succ d ih =>
    intro y out hy hf hl hb
    have hwor := worB_le (n := k - (t + 1)) (by omega)
    obtain ⟨v, e1, v1⟩ := bill_ok (N := N) hp hwor (next := gd table (t + 1) []) (ht.r (t + 1) (by omega)) (y := y) (n := k - t) (by omega) (by omega) hN
    have hd22 : d + 1 ≤ 22 := by omega
    obtain ⟨bills, f1, f2, f3⟩ := ih (y + 1) (out ++ [v]) (by omega) (by omega) (by simp; omega) (fun j hj => by
      rw [List.length_append, List.length_singleton] at hj
      by_cases q : j < out.length
      · have : gd (out ++ [v]) j 0 = gd out j 0 := by simp [gd, List.getD_eq_getElem?_getD, List.getElem?_append_left q]
        rw [this]; exact hb j q
      · have : gd (out ++ [v]) j 0 = v := by obtain rfl : j = out.length := by omega
                                             simp [gd]
        rw [this]; exact v1)
    refine ⟨bills, fun m hm => ?_, by rw [f2]; simp; omega, f3⟩
    obtain ⟨m, rfl⟩ : ∃ q, m = q + 1 := ⟨m - 1, by omega⟩
    rw [spec_l6Bills_L1_succ]
    simp only [spec_l6Bills_B1, ile_eq, show y ≤ 10 by omega, decide_true, cond_true, iadd_nat (show t < 4611686018427387904 by omega), show inB ((t + 1 : Nat) : Int) table.length = true from inB_true (by rw [ht.l]; omega), chk_true', Int.toNat_natCast, isub_in (show -9223372036854775808 ≤ p.1 - (t : Int) by omega) (by omega), show p.1 - (t : Int) = ((k - t : Nat) : Int) by omega, e1, Option.bind_some, chk_of (fitB_in (n := out.length + 1) (b := 8) (by omega) (by omega)), iadd_in (show -9223372036854775808 ≤ y + 1 by omega) (by omega)]
    exact f1 m (by omega)
theorem low_loop {N : Nat} {p : Pc} (hp : PcP p) {v6 bills : List Int} {u n : Nat} {t : Int} (hu : u < bills.length) (hbl : bills.length ≤ 1000) (hb : ∀ j, j < bills.length → -100000000000000000 ≤ gd bills j 0 ∧ gd bills j 0 ≤ 100000000000000000) (ht : p.1 - t = (n : Int)) (hn : n ≤ 5) (ht0 : 0 ≤ t) (hN : 4194304 ≤ N) : ∀ (d l : Nat), l + d = u → ∃ r : List Int, ∀ m, d < m → spec_l6Levels_L1 N m t (u : Int) (l : Int) p v6 bills = some (r, ()) := by
  have hpt := hp.t
  have hw := hp.w
  have hs := hp.u
  obtain ⟨f1, f2⟩ := floor_eq (N := N) (p := p) (by omega)
  obtain ⟨p1, p2, p3⟩ := pow_ok (N := N) hp hn hN
  have h1 := Int.mul_nonneg hs.1 p2
  have h2 := Int.mul_le_mul hs.2 p3 p2 (by omega)
  have e1 : imul .i64 p.2.2.1 (powI p.2.1.sum n) = p.2.2.1 * powI p.2.1.sum n := imul_in (by omega) (by omega)
  have hbu := hb u hu
  have e2 : iadd .i64 (gd bills u 0) (p.2.2.1 * powI p.2.1.sum n) = gd bills u 0 + p.2.2.1 * powI p.2.1.sum n := iadd_in (by omega) (by omega)
  have base : ∀ m (l : Nat), l ≤ u → spec_l6Levels_L1 N (m + 1) t (u : Int) (l : Int) p v6 bills = bif decide (gd bills u 0 + p.2.2.1 * powI p.2.1.sum n < gd bills l 0) then spec_l6Levels_L1 N m t (u : Int) ((l + 1 : Nat) : Int) p v6 bills else spec_l6Levels_K1 N (u : Int) (l : Int) p v6 := fun m l hl => by
    rw [spec_l6Levels_L1_succ]
    simp only [spec_l6Levels_B1, inB_true (show l < bills.length by omega), inB_true hu, chk_true', isub_in (show -9223372036854775808 ≤ p.1 - t by omega) (by omega), ht, p1, Option.bind_some, Int.toNat_natCast, e1, e2, ilt_eq]
    by_cases q : gd bills u 0 + p.2.2.1 * powI p.2.1.sum n < gd bills l 0
    · simp only [decide_eq_true q, cond_true]
      rw [iadd_nat (show l < 4611686018427387904 by omega)]
    · simp only [decide_eq_false q, cond_false]
  intro d
  induction d with
  | zero =>
    intro l hl
    obtain rfl : l = u := by omega
    refine ⟨List.set (List.set (List.replicate 2 0) 0 (iadd .i64 (l : Int) ((p.2.1.length : Int) - 11))) 1 (iadd .i64 (l : Int) ((p.2.1.length : Int) - 11)), fun m hm => ?_⟩
    obtain ⟨m, rfl⟩ : ∃ q, m = q + 1 := ⟨m - 1, by omega⟩
    rw [base m l (Nat.le_refl _), decide_eq_false (by omega), cond_false]
    simp only [spec_l6Levels_K1, f2, Option.bind_some]
  | succ d ih =>
    intro l hl
    by_cases q : gd bills u 0 + p.2.2.1 * powI p.2.1.sum n < gd bills l 0
    · obtain ⟨r, g⟩ := ih (l + 1) (by omega)
      refine ⟨r, fun m hm => ?_⟩
      obtain ⟨m, rfl⟩ : ∃ q, m = q + 1 := ⟨m - 1, by omega⟩
      rw [base m l (by omega), decide_eq_true q, cond_true]
      exact g m (by omega)
    · refine ⟨List.set (List.set (List.replicate 2 0) 0 (iadd .i64 (l : Int) ((p.2.1.length : Int) - 11))) 1 (iadd .i64 (u : Int) ((p.2.1.length : Int) - 11)), fun m hm => ?_⟩
      obtain ⟨m, rfl⟩ : ∃ q, m = q + 1 := ⟨m - 1, by omega⟩
      rw [base m l (by omega), decide_eq_false q, cond_false]
      simp only [spec_l6Levels_K1, f2, Option.bind_some]
theorem up_loop {N : Nat} {p : Pc} (hp : PcP p) {v6 bills : List Int} {n : Nat} {t : Int} (hb : ∀ j, j < bills.length → -100000000000000000 ≤ gd bills j 0 ∧ gd bills j 0 ≤ 100000000000000000) (hbl : bills.length ≤ 1000) (ht : p.1 - t = (n : Int)) (hn : n ≤ 5) (ht0 : 0 ≤ t) (hN : 4194304 ≤ N) : ∀ (d i u : Nat), i + d = bills.length → u < bills.length → ∃ r : List Int, ∀ m, d < m → spec_l6Levels_L2 N m t (u : Int) 0 (i : Int) p v6 bills = some (r, ()) := by
  intro d
  induction d with
  | zero =>
    intro i u hi hu
    obtain ⟨r, g⟩ := low_loop (N := N) hp (v6 := v6) hu hbl hb ht hn ht0 hN u 0 (by omega)
    refine ⟨r, fun m hm => ?_⟩
    obtain ⟨m, rfl⟩ : ∃ q, m = q + 1 := ⟨m - 1, by omega⟩
    rw [spec_l6Levels_L2_succ]
    simp only [spec_l6Levels_B2, ilt_eq, len_eq, Int.ofNat_lt, show ¬ i < bills.length by omega, decide_false, cond_false, spec_l6Levels_K2]
    exact g N (by omega)
  | succ d ih =>
    intro i u hi hu
    by_cases q : gd bills i 0 < gd bills u 0
    · obtain ⟨r, g⟩ := ih (i + 1) i (by omega) (by omega)
      refine ⟨r, fun m hm => ?_⟩
      obtain ⟨m, rfl⟩ : ∃ q, m = q + 1 := ⟨m - 1, by omega⟩
      rw [spec_l6Levels_L2_succ]
      simp only [spec_l6Levels_B2, ilt_eq, len_eq, Int.ofNat_lt, show i < bills.length by omega, decide_true, cond_true, inB_true (show i < bills.length by omega), inB_true hu, chk_true', Int.toNat_natCast, q, iadd_nat (show i < 4611686018427387904 by omega)]
      exact g m (by omega)
    · obtain ⟨r, g⟩ := ih (i + 1) u (by omega) hu
      refine ⟨r, fun m hm => ?_⟩
      obtain ⟨m, rfl⟩ : ∃ q, m = q + 1 := ⟨m - 1, by omega⟩
      rw [spec_l6Levels_L2_succ]
      simp only [spec_l6Levels_B2, ilt_eq, len_eq, Int.ofNat_lt, show i < bills.length by omega, decide_true, cond_true, inB_true (show i < bills.length by omega), inB_true hu, chk_true', Int.toNat_natCast, q, decide_false, cond_false, iadd_nat (show i < 4611686018427387904 by omega)]
      exact g m (by omega)
theorem levels_ok {N : Nat} {p : Pc} (hp : PcP p) {table : Pl} (ht : Tab p.1.toNat table) {t : Nat} (htk : t < p.1.toNat) (hN : 4194304 ≤ N) : ∃ r : List Int, spec_l6Levels N p table (t : Int) = some (r, ()) := by
  have hpt := hp.t
  have hw := hp.w
  obtain ⟨f1, f2⟩ := floor_eq (N := N) (p := p) (by omega)
  obtain ⟨bills, g1, g2, g3⟩ := bills_loop (N := N) hp ht (by omega) htk hN (22 - p.2.1.length) ((p.2.1.length : Int) - 11) [] (by omega) (by omega) (by simp; omega) (fun j hj => by simp at hj)
  have hbl : bills.length = 22 - p.2.1.length := by rw [g2]; simp
  have e1 : spec_l6Bills N p table (t : Int) = some (bills, ()) := by
    simp only [spec_l6Bills, f2, Option.bind_some]
    exact g1 N (by omega)
  obtain ⟨r, h⟩ := up_loop (N := N) hp (v6 := List.replicate 2 0) (t := (t : Int)) (n := p.1.toNat - t) g3 (by omega) (by omega) (by omega) (by omega) hN (bills.length - 1) 1 0 (by omega) (by omega)
  refine ⟨r, ?_⟩
  simp only [spec_l6Levels, e1, Option.bind_some]
  exact h N (by omega)
theorem bl_loop {N : Nat} {p : Pc} (hp : PcP p) {table : Pl} (ht : Tab p.1.toNat table) (hN : 4194304 ≤ N) : ∀ (d t : Nat) (out : Pl), t + d = p.1.toNat → out.length = t → ∃ r : Pl, (∀ m, d < m → spec_BestLevels_L1 N m (t : Int) p out table = some ((r, true), ())) ∧ r.length ≤ 5 := by
  have hpt := hp.t
  intro d
  induction d with
  | zero =>
    intro t out h1 h2
    refine ⟨out, fun m hm => ?_, by omega⟩
    obtain ⟨m, rfl⟩ : ∃ q, m = q + 1 := ⟨m - 1, by omega⟩
    rw [spec_BestLevels_L1_succ]
    simp only [spec_BestLevels_B1, ilt_eq, show ¬ (t : Int) < p.1 by omega, decide_false, cond_false, spec_BestLevels_K1]
  | succ d ih =>
    intro t out h1 h2
    obtain ⟨r1, e1⟩ := levels_ok (N := N) hp ht (t := t) (by omega) hN
    obtain ⟨r, g1, g2⟩ := ih (t + 1) (out ++ [r1]) (by omega) (by simp; omega)
    refine ⟨r, fun m hm => ?_, g2⟩
    obtain ⟨m, rfl⟩ : ∃ q, m = q + 1 := ⟨m - 1, by omega⟩
    rw [spec_BestLevels_L1_succ]
    simp only [spec_BestLevels_B1, ilt_eq, show (t : Int) < p.1 by omega, decide_true, cond_true, e1, Option.bind_some, chk_of (fitB_in (n := out.length + 1) (b := 16) (by omega) (by omega)), iadd_nat (show t < 4611686018427387904 by omega)]
    exact g1 m (by omega)
theorem BestLevels_ok {N : Nat} {p : Pc} (hl : p.2.1.length < 4194304) (hN : 4194304 ≤ N) : ∃ r b, spec_BestLevels N p = some ((r, b), ()) ∧ r.length ≤ 5 := by
  simp only [spec_BestLevels, (isProc_eq hl hN).2, Option.bind_some, bif_not]
  cases h1 : pcB p with
  | false => exact ⟨[], false, rfl, by simp⟩
  | true =>
    have hp := pcP h1
    have hpt := hp.t
    obtain ⟨table, e1, ht⟩ := worths_ok (N := N) hp hN
    obtain ⟨r, g1, g2⟩ := bl_loop (N := N) hp ht hN p.1.toNat 0 [] (by omega) rfl
    simp only [cond_true, e1, Option.bind_some]
    exact ⟨r, true, g1 N (by omega), g2⟩
theorem most_some (N : Nat) (a b : Int) : ∃ r, spec_l1Most N a b = some (r, ()) := by
  simp only [spec_l1Most]
  cases ilt b a with
  | true => exact ⟨_, rfl⟩
  | false => exact ⟨_, rfl⟩
theorem pr_K1 {N : Nat} {cu : Cu} {q v : Pc} {k : Nat} (h1 : 1 ≤ q.2.1.length ∧ q.2.1.length ≤ 5) (h : Bud cu (k + 4)) : ∃ r c', pspec_l1Cur_process_K1 N cu v q = some (r, c') ∧ Bud c' k ∧ r.2.1.length ≤ 5 := by
  obtain ⟨x, c1, e1, b1, _⟩ := pick_ok (N := N) 40 (h.mono (show k + 2 + 2 ≤ k + 4 by omega))
  simp only [pspec_l1Cur_process_K1, e1, Option.bind_some, ieq_eq]
  by_cases q0 : x = 0
  · obtain ⟨y, c2, e2, b2, _⟩ := among_ok (N := N) (list := [(-1), 6]) (-1) 6 (by decide) (by decide) b1
    simp only [q0, decide_true, cond_true, e2, Option.bind_some]
    exact ⟨_, c2, rfl, b2, h1.2⟩
  by_cases q1 : x = 1
  · obtain ⟨y, c2, e2, b2, _⟩ := among_ok (N := N) (list := [(-1), 4, 5]) (-1) 5 (by decide) (by decide) b1
    simp only [q0, q1, decide_true, decide_false, cond_true, cond_false, e2, Option.bind_some, show inB 0 q.2.1.length = true from inB_in (by omega) (by omega), chk_true']
    exact ⟨_, c2, rfl, b2, by show (List.set q.2.1 0 y).length ≤ 5; rw [List.length_set]; exact h1.2⟩
  by_cases q2 : x = 2
  · obtain ⟨y, c2, e2, b2, _⟩ := among_ok (N := N) (list := [(-1), 100]) (-1) 100 (by decide) (by decide) b1
    simp only [q0, q1, q2, decide_true, decide_false, cond_true, cond_false, e2, Option.bind_some]
    exact ⟨_, c2, rfl, b2, h1.2⟩
  by_cases q3 : x = 3
  · obtain ⟨y, c2, e2, b2, _⟩ := among_ok (N := N) (list := [(-1), 9, 10]) (-1) 10 (by decide) (by decide) b1
    simp only [q0, q1, q2, q3, decide_true, decide_false, cond_true, cond_false, e2, Option.bind_some]
    exact ⟨_, c2, rfl, b2, h1.2⟩
  by_cases q4 : x = 4
  · simp only [q0, q1, q2, q3, q4, decide_true, decide_false, cond_true, cond_false]
    exact ⟨_, c1, rfl, b1.mono (by omega), by simp⟩
  · simp only [q0, q1, q2, q3, q4, decide_false, cond_false]
    exact ⟨_, c1, rfl, b1.mono (by omega), h1.2⟩
theorem pr_K2 {N : Nat} {cu : Cu} {q v : Pc} {k : Nat} {b : Bool} (h1 : 1 ≤ q.2.1.length ∧ q.2.1.length ≤ 5) (h : Bud cu (k + 4)) : ∃ r c', pspec_l1Cur_process_K2 N b cu v q = some (r, c') ∧ Bud c' k ∧ r.2.1.length ≤ 5 := by
  simp only [pspec_l1Cur_process_K2]
  cases b with
  | true =>
    simp only [cond_true, show inB 0 q.2.1.length = true from inB_in (by omega) (by omega), chk_true']
    exact pr_K1 (by show 1 ≤ (List.set q.2.1 0 1).length ∧ (List.set q.2.1 0 1).length ≤ 5; rw [List.length_set]; exact h1) h
  | false => exact pr_K1 (v := v) h1 h
theorem pr_loop {N : Nat} (hN : 4194304 ≤ N) {v : Pc} : ∀ (d k : Nat) (cu : Cu) (q : Pc), 1 ≤ q.2.1.length + d → q.2.1.length + d ≤ 5 → bd 3 q.2.1 → Bud cu (k + 6 + 2 * d) → ∃ r c', (∀ m, d < m → pspec_l1Cur_process_L1 N m (d : Int) cu v q = some (r, c')) ∧ Bud c' k ∧ r.2.1.length ≤ 5 := by
  intro d
  induction d with
  | zero =>
    intro k cu q h1 h2 hb h
    obtain ⟨x, c1, e1, b1⟩ := one_ok (N := N) 4 (h.mono (show k + 4 + 2 ≤ k + 6 + 2 * 0 by omega))
    have hs := spec_l2Sum_eq (N := N) hb (by omega) (show q.2.1.length < 4194304 by omega) hN
    by_cases q0 : q.2.1.sum = 0
    · obtain ⟨r, c', f1, f2⟩ := pr_K2 (N := N) (v := v) (b := !x) (q := q) (by omega) b1
      refine ⟨r, c', fun m hm => ?_, f2⟩
      obtain ⟨m, rfl⟩ : ∃ q, m = q + 1 := ⟨m - 1, by omega⟩
      rw [pspec_l1Cur_process_L1_succ]
      simp only [pspec_l1Cur_process_B1, ilt_eq, show ¬ (0 : Int) < ((0 : Nat) : Int) by omega, decide_false, cond_false, pspec_l1Cur_process_K3, hs, Option.bind_some, ieq_eq, q0, decide_true, cond_true, e1, f1]
    · obtain ⟨r, c', f1, f2⟩ := pr_K2 (N := N) (v := v) (b := false) (q := q) (by omega) (h.mono (show k + 4 ≤ k + 6 + 2 * 0 by omega))
      refine ⟨r, c', fun m hm => ?_, f2⟩
      obtain ⟨m, rfl⟩ : ∃ q, m = q + 1 := ⟨m - 1, by omega⟩
      rw [pspec_l1Cur_process_L1_succ]
      simp only [pspec_l1Cur_process_B1, ilt_eq, show ¬ (0 : Int) < ((0 : Nat) : Int) by omega, decide_false, cond_false, pspec_l1Cur_process_K3, hs, Option.bind_some, ieq_eq, q0, f1]
  | succ d ih =>
    intro k cu q h1 h2 hb h
    obtain ⟨x, c1, e1, b1, x0, x1⟩ := among_ok (N := N) (list := [1, 2, 1, 0, 3]) 0 3 (by decide) (by decide) (h.mono (show k + 6 + 2 * d + 2 ≤ k + 6 + 2 * (d + 1) by omega))
    obtain ⟨r, c', f1, f2⟩ := ih k c1 (q.1, (q.2.1 ++ [x], q.2.2)) (by show 1 ≤ (q.2.1 ++ [x]).length + d; simp; omega) (by show (q.2.1 ++ [x]).length + d ≤ 5; simp; omega) (fun j hj => by
      have hj' : j < q.2.1.length + 1 := by simpa using hj
      show 0 ≤ gd (q.2.1 ++ [x]) j 0 ∧ gd (q.2.1 ++ [x]) j 0 ≤ 3
      by_cases qq : j < q.2.1.length
      · have : gd (q.2.1 ++ [x]) j 0 = gd q.2.1 j 0 := by simp [gd, List.getD_eq_getElem?_getD, List.getElem?_append_left qq]
        rw [this]; exact hb j qq
      · have : gd (q.2.1 ++ [x]) j 0 = x := by obtain rfl : j = q.2.1.length := by omega
                                               simp [gd]
        rw [this]; exact ⟨x0, x1⟩) b1
    refine ⟨r, c', fun m hm => ?_, f2⟩
    obtain ⟨m, rfl⟩ : ∃ q, m = q + 1 := ⟨m - 1, by omega⟩
    rw [pspec_l1Cur_process_L1_succ]
    simp only [pspec_l1Cur_process_B1, ilt_eq, show (0 : Int) < ((d + 1 : Nat) : Int) by omega, decide_true, cond_true, e1, Option.bind_some, chk_of (fitB_in (n := q.2.1.length + 1) (b := 8) (by omega) (by omega)), show isub .i64 ((d + 1 : Nat) : Int) 1 = (d : Int) by rw [isub_in (by omega) (by omega)]; omega]
    exact f1 m (by omega)
theorem process_ok {N : Nat} (hN : 4194304 ≤ N) {cu : Cu} {k : Nat} (h : Bud cu (k + 30)) : ∃ p c', pspec_l1Cur_process N cu = some (p, c') ∧ Bud c' k ∧ p.2.1.length ≤ 5 := by
  obtain ⟨r0, c0, e0, b0, _⟩ := among_ok (N := N) (list := [2, 3, 1, 2, 0, 4, 5]) 0 5 (by decide) (by decide) (h.mono (show k + 16 + 2 + 2 + 2 + 2 + 2 + 2 ≤ k + 30 by omega))
  obtain ⟨r1, c1, e1, b1, _⟩ := among_ok (N := N) (list := [0, 3, 6, 10, 99]) 0 99 (by decide) (by decide) b0
  obtain ⟨r2, c2, e2, b2, _⟩ := pick_ok (N := N) 3 b1
  obtain ⟨r3, c3, e3, b3, _⟩ := pick_ok (N := N) 3 b2
  obtain ⟨r4, c4, e4, b4, _⟩ := among_ok (N := N) (list := [2, 4, 6, 9, 0]) 0 9 (by decide) (by decide) b3
  obtain ⟨r5, c5, e5, b5, v5, v5'⟩ := pick_ok (N := N) 5 b4
  obtain ⟨r, c', f1, f2⟩ := pr_loop hN (v := (0, ([], (0, (0, (0, 0)))))) (1 + r5).toNat k c5 (r0, ([], (r1, (r2, (iadd .i64 1 r3, r4))))) (by show 1 ≤ 0 + _; omega) (by show 0 + _ ≤ 5; omega) (fun j hj => by simp at hj) (b5.mono (by omega))
  refine ⟨r, c', ?_, f2⟩
  simp only [pspec_l1Cur_process, e0, e1, e2, e3, e4, e5, Option.bind_some]
  rw [iadd_in (a := 1) (b := r5) (by omega) (by omega)]
  have := f1 N (by omega)
  rw [show (((1 + r5).toNat : Nat) : Int) = 1 + r5 by omega] at this
  exact this
theorem po_K1 {N : Nat} {cu : Cu} {out : Pl} {k : Nat} (h1 : out.length ≤ 6) (h : Bud cu (k + 6)) : ∃ r c', pspec_l1Cur_policy_K1 N cu out = some (r, c') ∧ Bud c' k ∧ r.length ≤ 7 := by
  obtain ⟨x, c1, e1, b1, _⟩ := pick_ok (N := N) 20 (h.mono (show k + 4 + 2 ≤ k + 6 by omega))
  simp only [pspec_l1Cur_policy_K1, e1, Option.bind_some, ieq_eq, ilt_eq, len_eq]
  by_cases q0 : x = 0
  · simp only [q0, decide_true, cond_true, chk_of (fitB_in (n := out.length + 1) (b := 16) (by omega) (by omega))]
    exact ⟨_, c1, rfl, b1.mono (by omega), by simp; omega⟩
  by_cases q1 : x = 1
  · by_cases q2 : (0 : Int) < out.length
    · obtain ⟨y, c2, e2, b2, _⟩ := among_ok (N := N) (list := [(-11), 3, 0]) (-11) 3 (by decide) (by decide) (b1.mono (show k + 2 + 2 ≤ k + 4 by omega))
      obtain ⟨z, c3, e3, b3, _⟩ := among_ok (N := N) (list := [11, 0, (-10)]) (-10) 11 (by decide) (by decide) b2
      simp only [q0, q1, q2, decide_true, decide_false, cond_true, cond_false, e2, e3, Option.bind_some, show inB 0 out.length = true from inB_in (by omega) (by omega), chk_true']
      exact ⟨_, c3, rfl, b3, by rw [List.length_set]; omega⟩
    · simp only [q0, q1, q2, decide_true, decide_false, cond_true, cond_false]
      exact ⟨_, c1, rfl, b1.mono (by omega), by omega⟩
  · simp only [q0, q1, decide_false, cond_false]
    exact ⟨_, c1, rfl, b1.mono (by omega), by omega⟩
theorem po_loop {N : Nat} {p : Pc} : ∀ (d t k : Nat) (cu : Cu) (out : Pl), t + d = 6 → out.length ≤ t → Bud cu (k + 6 + 4 * d) → ∃ r c', (∀ m, d < m → pspec_l1Cur_policy_L1 N m (t : Int) cu p out = some (r, c')) ∧ Bud c' k ∧ r.length ≤ 7 := by
  intro d
  induction d with
  | zero =>
    intro t k cu out h1 h2 h
    obtain ⟨r, c', f1, f2⟩ := po_K1 (N := N) (out := out) (by omega) h
    refine ⟨r, c', fun m hm => ?_, f2⟩
    obtain ⟨m, rfl⟩ : ∃ q, m = q + 1 := ⟨m - 1, by omega⟩
    rw [pspec_l1Cur_policy_L1_succ]
    simp only [pspec_l1Cur_policy_B1, ilt_eq, show ¬ (t : Int) < 6 by omega, decide_false, cond_false, pspec_l1Cur_policy_K2, f1]
    cases decide ((t : Int) < p.1) <;> rfl
  | succ d ih =>
    intro t k cu out h1 h2 h
    by_cases q : (t : Int) < p.1
    · obtain ⟨x, c1, e1, b1, _⟩ := pick_ok (N := N) 14 (h.mono (show k + 6 + 4 * d + 2 + 2 ≤ k + 6 + 4 * (d + 1) by omega))
      obtain ⟨y, c2, e2, b2, _⟩ := pick_ok (N := N) 4 b1
      obtain ⟨r, c', f1, f2⟩ := ih (t + 1) k c2 (out ++ [List.set (List.set (List.replicate 2 0) 0 (isub .i64 (isub .i64 x 6) y)) 1 (isub .i64 x 6)]) (by omega) (by simp; omega) b2
      refine ⟨r, c', fun m hm => ?_, f2⟩
      obtain ⟨m, rfl⟩ : ∃ q, m = q + 1 := ⟨m - 1, by omega⟩
      rw [pspec_l1Cur_policy_L1_succ]
      simp only [pspec_l1Cur_policy_B1, ilt_eq, q, show (t : Int) < 6 by omega, decide_true, cond_true, e1, e2, Option.bind_some, chk_of (fitB_in (n := out.length + 1) (b := 16) (by omega) (by omega)), iadd_nat (show t < 4611686018427387904 by omega)]
      exact f1 m (by omega)
    · obtain ⟨r, c', f1, f2⟩ := po_K1 (N := N) (out := out) (by omega) (h.mono (show k + 6 ≤ k + 6 + 4 * (d + 1) by omega))
      refine ⟨r, c', fun m hm => ?_, f2⟩
      obtain ⟨m, rfl⟩ : ∃ q, m = q + 1 := ⟨m - 1, by omega⟩
      rw [pspec_l1Cur_policy_L1_succ]
      simp only [pspec_l1Cur_policy_B1, ilt_eq, q, decide_false, cond_false, pspec_l1Cur_policy_K2, f1]
theorem policy_ok {N : Nat} (hN : 4194304 ≤ N) {cu : Cu} {p : Pc} {k : Nat} (hp : p.2.1.length ≤ 5) (h : Bud cu (k + 32)) : ∃ r c', pspec_l1Cur_policy N cu p = some (r, c') ∧ Bud c' k ∧ r.length ≤ 7 := by
  obtain ⟨l, b, e0, l0⟩ := BestLevels_ok (N := N) (p := p) (by omega) hN
  simp only [pspec_l1Cur_policy, e0, Option.bind_some]
  cases b with
  | true =>
    obtain ⟨x, c1, e1, b1⟩ := one_ok (N := N) 3 (h.mono (show k + 30 + 2 ≤ k + 32 by omega))
    simp only [cond_true, e1, Option.bind_some, pspec_l1Cur_policy_K3]
    cases x with
    | true => exact po_K1 (by omega) (b1.mono (by omega))
    | false =>
      obtain ⟨r, c', f1, f2⟩ := po_loop (N := N) (p := p) 6 0 k c1 [] (by omega) (by simp) (b1.mono (by omega))
      exact ⟨r, c', f1 N (by omega), f2⟩
  | false =>
    simp only [cond_false, pspec_l1Cur_policy_K3]
    obtain ⟨r, c', f1, f2⟩ := po_loop (N := N) (p := p) 6 0 k cu [] (by omega) (by simp) (h.mono (by omega))
    exact ⟨r, c', f1 N (by omega), f2⟩
theorem level_ok {N : Nat} {cu : Cu} {k : Nat} (h : Bud cu (k + 2)) : ∃ r c', pspec_l1Cur_level N cu = some (r, c') ∧ Bud c' k := by
  obtain ⟨x, c1, e1, b1, _⟩ := among_ok (N := N) (list := [0, 1, (-1), 3, (-3), 5, (-8), 10, (-10), 7, 11, (-11)]) (-11) 11 (by decide) (by decide) h
  exact ⟨x, c1, by simp only [pspec_l1Cur_level, e1, Option.bind_some], b1⟩
theorem DrawStepLevel_ok {N : Nat} (hN : 4194304 ≤ N) {code : List Int} (h : Bud (code, (0, 0)) 100) : ∃ p l t x d, spec_DrawStepLevel N code = some ((p, (l, (t, (x, d)))), ()) ∧ p.2.1.length ≤ 5 ∧ l.length ≤ 7 := by
  obtain ⟨p, c0, e0, b0, p0⟩ := process_ok hN (h.mono (show 10 + 32 + 30 ≤ 100 by omega))
  obtain ⟨l, c1, e1, b1, l1⟩ := policy_ok hN p0 b0
  obtain ⟨r2, c2, e2, b2, _⟩ := pick_ok (N := N) (k := 8) 4 b1
  obtain ⟨r3, c3, e3, b3, _⟩ := pick_ok (N := N) (k := 6) 2 b2
  obtain ⟨r4, c4, e4, b4⟩ := level_ok (N := N) (k := 4) b3
  obtain ⟨r5, c5, e5, b5, _⟩ := pick_ok (N := N) (k := 2) 6 b4
  obtain ⟨r6, c6, e6, b6, _⟩ := pick_ok (N := N) (k := 0) 2 b5
  exact ⟨p, l, isub .i64 r2 r3, r4, isub .i64 r5 r6, by simp only [spec_DrawStepLevel, e0, e1, e2, e3, e4, e5, e6, Option.bind_some], p0, l1⟩
abbrev TrDraw := (Pc × Pl × Int × List Int) × Unit
abbrev TrK := Int → Int → Pc → Cu → Pc → Pl → List Int → Option TrDraw
theorem tr_in {N : Nat} {p v : Pc} (hp : p.2.1.length ≤ 5) {level t : Int} {levels : Pl} {asked : List Int} {w0 : Int} {w1 w2 w3 : Bool} (ht : -100 ≤ t ∧ t ≤ 100) (ha : asked.length ≤ 100) : ∀ (e n k : Nat) (x : Int) (cu : Cu), n + e = 5 → Bud cu (k + 4 * e) → ∃ y c', (∀ (kx : TrK) m, e < m → spec_DrawTraceLevels_L1 N m kx level t x (n : Int) w0 w1 w2 w3 v cu p levels asked = kx level (t + 1) v c' p levels (asked ++ [y])) ∧ Bud c' k := by
  have hK : ∀ (kx : TrK) (x : Int) (c : Cu), spec_DrawTraceLevels_K1 N kx level t x w0 w1 w2 w3 v c p levels asked = kx level (t + 1) v c p levels (asked ++ [x]) := fun kx x c => by
    simp only [spec_DrawTraceLevels_K1, chk_of (fitB_in (n := asked.length + 1) (b := 8) (by omega) (by omega)), iadd_in (show -9223372036854775808 ≤ t + 1 by omega) (by omega)]
  intro e
  induction e with
  | zero =>
    intro n k x cu hn h
    refine ⟨x, cu, fun kx m hm => ?_, h⟩
    obtain ⟨m, rfl⟩ : ∃ q, m = q + 1 := ⟨m - 1, by omega⟩
    rw [spec_DrawTraceLevels_L1_succ]
    simp only [spec_DrawTraceLevels_B1, ilt_eq, show ¬ (n : Int) < 5 by omega, decide_false, cond_false, hK]
  | succ e ih =>
    intro n k x cu hn h
    cases hq : askB p x with
    | true =>
      refine ⟨x, cu, fun kx m hm => ?_, h.mono (by omega)⟩
      obtain ⟨m, rfl⟩ : ∃ q, m = q + 1 := ⟨m - 1, by omega⟩
      rw [spec_DrawTraceLevels_L1_succ]
      simp only [spec_DrawTraceLevels_B1, ilt_eq, show (n : Int) < 5 by omega, decide_true, cond_true, (asked_eq (N := N) hp x).2, Option.bind_some, hq, Bool.not_true, cond_false, hK]
    | false =>
      obtain ⟨o, c1, e1, b1⟩ := one_ok (N := N) 12 (h.mono (show k + 4 * e + 2 + 2 ≤ k + 4 * (e + 1) by omega))
      cases o with
      | true =>
        refine ⟨x, c1, fun kx m hm => ?_, b1.mono (by omega)⟩
        obtain ⟨m, rfl⟩ : ∃ q, m = q + 1 := ⟨m - 1, by omega⟩
        rw [spec_DrawTraceLevels_L1_succ]
        simp only [spec_DrawTraceLevels_B1, ilt_eq, show (n : Int) < 5 by omega, decide_true, cond_true, (asked_eq (N := N) hp x).2, Option.bind_some, hq, Bool.not_false, e1, Bool.not_true, cond_false, hK]
      | false =>
        obtain ⟨r, er⟩ := most_some N (len p.2.1) 1
        obtain ⟨z, c2, e2, b2, _⟩ := pick_ok (N := N) r b1
        obtain ⟨y, c', f1, f2⟩ := ih (n + 1) k z c2 (by omega) b2
        refine ⟨y, c', fun kx m hm => ?_, f2⟩
        obtain ⟨m, rfl⟩ : ∃ q, m = q + 1 := ⟨m - 1, by omega⟩
        rw [spec_DrawTraceLevels_L1_succ]
        simp only [spec_DrawTraceLevels_B1, ilt_eq, show (n : Int) < 5 by omega, decide_true, cond_true, (asked_eq (N := N) hp x).2, Option.bind_some, hq, Bool.not_false, e1, er, e2, iadd_nat (show n < 4611686018427387904 by omega)]
        exact f1 kx m (by omega)
theorem tr_end {N : Nat} {p v : Pc} {level : Int} {levels : Pl} {asked : List Int} (ha : asked.length ≤ 6) {cu : Cu} {k : Nat} (h : Bud cu (k + 2)) : ∃ asked' : List Int, spec_DrawTraceLevels_K2 N level v cu p levels asked = some ((p, (levels, (level, asked'))), ()) ∧ asked'.length ≤ 7 := by
  obtain ⟨o, c1, e1, b1⟩ := one_ok (N := N) 20 h
  simp only [spec_DrawTraceLevels_K2, e1, Option.bind_some]
  cases o with
  | true => simp only [cond_true, chk_of (fitB_in (n := asked.length + 1) (b := 8) (by omega) (by omega))]; exact ⟨_, rfl, by simp; omega⟩
  | false => exact ⟨_, rfl, by omega⟩
theorem tr_loop {N : Nat} (hN : 4194304 ≤ N) {p v : Pc} (hp : p.2.1.length ≤ 5) {level : Int} {levels : Pl} : ∀ (d t : Nat) (cu : Cu) (asked : List Int), t + d = 6 → asked.length ≤ t → Bud cu (2 + 24 * d) → ∃ asked' : List Int, (∀ m, d < m → spec_DrawTraceLevels_L2 N m level (t : Int) v cu p levels asked = some ((p, (levels, (level, asked'))), ())) ∧ asked'.length ≤ 7 := by
  intro d
  induction d with
  | zero =>
    intro t cu asked h1 h2 h
    obtain ⟨a, f1, f2⟩ := tr_end (N := N) (p := p) (v := v) (level := level) (levels := levels) (asked := asked) (by omega) (k := 0) (h.mono (by omega))
    refine ⟨a, fun m hm => ?_, f2⟩
    obtain ⟨m, rfl⟩ : ∃ q, m = q + 1 := ⟨m - 1, by omega⟩
    rw [spec_DrawTraceLevels_L2_succ]
    simp only [spec_DrawTraceLevels_B2, ilt_eq, show ¬ (t : Int) < 6 by omega, decide_false, cond_false, f1]
    cases decide ((t : Int) < p.1) <;> rfl
  | succ d ih =>
    intro t cu asked h1 h2 h
    by_cases q : (t : Int) < p.1
    · obtain ⟨o, c1, e1, b1⟩ := one_ok (N := N) 8 (h.mono (show 2 + 24 * d + 20 + 2 + 2 ≤ 2 + 24 * (d + 1) by omega))
      cases o with
      | true =>
        obtain ⟨a, f1, f2⟩ := tr_end (N := N) (p := p) (v := v) (level := level) (levels := levels) (asked := asked) (by omega) (k := 0) (b1.mono (by omega))
        refine ⟨a, fun m hm => ?_, f2⟩
        obtain ⟨m, rfl⟩ : ∃ q, m = q + 1 := ⟨m - 1, by omega⟩
        rw [spec_DrawTraceLevels_L2_succ]
        simp only [spec_DrawTraceLevels_B2, ilt_eq, q, show (t : Int) < 6 by omega, decide_true, cond_true, e1, Option.bind_some, Bool.not_true, cond_false, f1]
      | false =>
        obtain ⟨r, er⟩ := most_some N (len p.2.1) 1
        obtain ⟨z, c2, e2, b2, _⟩ := pick_ok (N := N) r b1
        obtain ⟨y, c3, g1, g2⟩ := tr_in (N := N) hp (v := v) (level := level) (t := (t : Int)) (levels := levels) (asked := asked) (w0 := (t : Int)) (w1 := decide ((t : Int) < 6)) (w2 := false) (w3 := !false) (by omega) (by omega) 5 0 (2 + 24 * d) z c2 (by omega) (b2.mono (by omega))
        obtain ⟨a, f1, f2⟩ := ih (t + 1) c3 (asked ++ [y]) (by omega) (by simp; omega) g2
        refine ⟨a, fun m hm => ?_, f2⟩
        obtain ⟨m, rfl⟩ : ∃ q, m = q + 1 := ⟨m - 1, by omega⟩
        rw [spec_DrawTraceLevels_L2_succ]
        have g1' := g1 (fun level t v2 c p levels asked => spec_DrawTraceLevels_L2 N m level t v2 c p levels asked) N (by omega)
        have f1' := f1 m (by omega)
        simp only [spec_DrawTraceLevels_B2, ilt_eq, q, decide_true, cond_true, e1, Option.bind_some, er, e2, show decide ((t : Int) < 6) = true from decide_eq_true (by omega), Bool.not_false] at g1' ⊢
        rw [show ((0 : Nat) : Int) = 0 from rfl] at g1'
        rw [g1']
        exact f1'
    · obtain ⟨a, f1, f2⟩ := tr_end (N := N) (p := p) (v := v) (level := level) (levels := levels) (asked := asked) (by omega) (k := 0) (h.mono (by omega))
      refine ⟨a, fun m hm => ?_, f2⟩
      obtain ⟨m, rfl⟩ : ∃ q, m = q + 1 := ⟨m - 1, by omega⟩
      rw [spec_DrawTraceLevels_L2_succ]
      simp only [spec_DrawTraceLevels_B2, ilt_eq, q, decide_false, cond_false, f1]
theorem DrawTraceLevels_ok {N : Nat} (hN : 4194304 ≤ N) {code : List Int} (h : Bud (code, (0, 0)) 300) : ∃ p l x a, spec_DrawTraceLevels N code = some ((p, (l, (x, a))), ()) ∧ p.2.1.length ≤ 5 ∧ l.length ≤ 7 ∧ a.length ≤ 7 := by
  obtain ⟨p, c0, e0, b0, p0⟩ := process_ok hN (h.mono (show 200 + 32 + 30 ≤ 300 by omega))
  obtain ⟨l, c1, e1, b1, l1⟩ := policy_ok hN p0 b0
  obtain ⟨x, c2, e2, b2⟩ := level_ok (N := N) (k := 198) b1
  obtain ⟨a, f1, f2⟩ := tr_loop hN (v := (0, ([], (0, (0, (0, 0)))))) p0 (level := x) (levels := l) 6 0 c2 [] (by omega) (by simp) (b2.mono (by omega))
  refine ⟨p, l, x, a, ?_, p0, l1, f2⟩
  simp only [spec_DrawTraceLevels, e0, e1, e2, Option.bind_some]
  exact f1 N (by omega)
theorem Traces_K1 {N : Nat} (hN : 4194304 ≤ N) {code : List Int} (h : Bud (code, (0, 0)) 300) : laws_FnTraces_K1 N code = some (true, ()) := by
  obtain ⟨p, l, t, x, d, e, hp, hl⟩ := DrawStepLevel_ok hN (h.mono (show 100 ≤ 300 by omega))
  simp only [laws_FnTraces_K1, e, Option.bind_some, impl_StepLevel_eq (show p.2.1.length < 4194304 by omega) (show l.length < 4194304 by omega) t x d hN, spec_StepLevel_eq (show p.2.1.length < 4194304 by omega) (show l.length < 4194304 by omega) t x d hN, ine_eq, decide_true, Bool.not_true, cond_false, beq_eq, BEq.rfl, impl_TextOfPolicy_eq (show p.2.1.length < 4194304 by omega) (show l.length < 4194304 by omega) hN, spec_TextOfPolicy_eq (show p.2.1.length < 4194304 by omega) (show l.length < 4194304 by omega) hN, seq_iff, cond_true]
theorem Traces_loop {N : Nat} (hN : 4194304 ≤ N) {code : List Int} (h : Bud (code, (0, 0)) 300) {p : Pc} {levels : Pl} {x : Int} {asked : List Int} (hl : p.2.1.length < 4194304) (hv : levels.length < 4194304) (h1 : pcB p = true) (h2 : polB p levels = true) (h3 : inRg (-10) 10 x = true) (h4 : (asked.length : Int) ≤ p.1) (h5 : ∀ t, t < asked.length → askB p (gd asked t 0) = true) :
    laws_FnTraces_L1 N N code (coT p levels asked x asked.length) x 0 0 p (p, (levels, (x, asked))) (trT p levels asked x asked.length, (coT p levels asked x asked.length, true)) = some (true, ()) := by
  have hp := pcP h1
  have ht5 := hp.t
  obtain ⟨g1, g2⟩ := pol_at h2
  have h3' := h3
  simp only [inRg, Bool.and_eq_true, decide_eq_true_eq] at h3'
  have key := laws_FnTraces_L1_run N (fun _ => code) (fun _ => coT p levels asked x asked.length) (fun t => lvT p levels asked x t) (fun t => coT p levels asked x t) (fun t => (t : Int)) (fun _ => p) (fun _ => (p, (levels, (x, asked)))) (fun _ => (trT p levels asked x asked.length, (coT p levels asked x asked.length, true))) asked.length (res_ := some (true, ())) (fun t ht kx => ?_) (fun kx => ?_) N (by omega)
  · exact key
  · have htl : t < levels.length := by omega
    obtain ⟨b1, b2, b3⟩ := lvT_bd hp h2 h3' t (by omega) (fun i hi => h5 i (by omega))
    have c1 : turnB p (t : Int) = true := by simp only [turnB, h1, inRg, Bool.true_and, Bool.and_eq_true, decide_eq_true_eq]; omega
    have c2 : inRg (-10) 10 (lvT p levels asked x t) = true := by simp only [inRg, Bool.and_eq_true, decide_eq_true_eq]; exact b1
    obtain ⟨s1, s2, s3, s4⟩ := stepped_eq (N := N) hp (g2 t htl) b1 (h5 t ht)
    obtain ⟨u1, u2, u3⟩ := up_bd (g2 t htl) b1
    have ha := h5 t ht
    have ha' := ha
    simp only [askB, inRg, Bool.and_eq_true, decide_eq_true_eq] at ha'
    have hw := hp.w
    have etr : gd (trT p levels asked x asked.length) t 0 = lvT p levels asked x (t + 1) := gd_map_range _ 0 ht
    have e1 : (stepOf p (gd levels t []) (lvT p levels asked x t) (gd asked t 0)).1 = upOf p (gd levels t []) (lvT p levels asked x t) := rfl
    have e2 : (stepOf p (gd levels t []) (lvT p levels asked x t) (gd asked t 0)).2.1 = upOf p (gd levels t []) (lvT p levels asked x t) - gd asked t 0 := rfl
    have e3 : lvT p levels asked x (t + 1) = upOf p (gd levels t []) (lvT p levels asked x t) - gd asked t 0 := rfl
    have e4 : isub .i64 (upOf p (gd levels t []) (lvT p levels asked x t)) (gd asked t 0) = upOf p (gd levels t []) (lvT p levels asked x t) - gd asked t 0 := isub_in (by omega) (by omega)
    simp only [laws_FnTraces_B1, ilt_eq, len_eq, Int.ofNat_lt, ht, decide_true, cond_true, inB_true ht, chk_true', Int.toNat_natCast, impl_StepLevel_eq hl hv _ _ _ hN, Option.bind_some, slOf, c1, c2, h2, ha, Bool.true_and, Bool.not_true, cond_false, inB_true (show t < (trT p levels asked x asked.length).length by simp [trT]; exact ht), etr, e1, e2, e3, e4, ine_eq, show ¬ upOf p (gd levels t []) (lvT p levels asked x t) < lvT p levels asked x t by omega, decide_false, iadd_nat (show t < 4611686018427387904 by omega), coT]
    rw [iadd_in (by omega) (by omega)]
  · simp only [laws_FnTraces_B1, laws_FnTraces_K2, ilt_eq, len_eq, Int.lt_irrefl, decide_false, cond_false, ine_eq, decide_true, Bool.not_true, Traces_K1 hN h]
theorem laws_FnTraces_law (code : List Int) (h : RngB code) : ∃ N, laws_FnTraces N code = some (true, ()) := by
  refine ⟨4194304, ?_⟩
  have hN := Nat.le_refl 4194304
  simp only [laws_FnTraces, laws_rBig, ilt_eq, len_eq, Option.bind_some]
  by_cases hl : (65536 : Int) < code.length
  · simp [hl]
  · have hl' : code.length ≤ 65536 := by omega
    have hb := bud_zero h hl' 300 (by omega)
    simp only [hl, decide_false, cond_false]
    obtain ⟨p, l, x, a, e, hp, hll, ha⟩ := DrawTraceLevels_ok hN hb
    have hrl : (traceOf p l x a).1.length < 4194304 := by
      unfold traceOf
      cases (pcB p && (polB p l && (inRg (-10) 10 x && (decide ((a.length : Int) ≤ p.1) && (List.range a.length).all fun t => askB p (gd a t 0))))) with
      | true => simp [trT]; omega
      | false => simp
    simp only [e, Option.bind_some, impl_TraceLevels_eq (N := 4194304) (asked := a) (x := x) (show p.2.1.length < 4194304 by omega) (show l.length < 4194304 by omega) hN, spec_TraceLevels_eq (N := 4194304) (asked := a) (x := x) (show p.2.1.length < 4194304 by omega) (show l.length < 4194304 by omega) hN, beq_eq, BEq.rfl, Bool.not_true, cond_false, ine_eq, decide_true, laws_rInts_refl hrl hN]
    unfold traceOf
    cases hc : (pcB p && (polB p l && (inRg (-10) 10 x && (decide ((a.length : Int) ≤ p.1) && (List.range a.length).all fun t => askB p (gd a t 0))))) with
    | false => simp only [cond_false]; exact Traces_K1 hN hb
    | true =>
      simp only [Bool.and_eq_true, decide_eq_true_eq] at hc
      simp only [cond_true]
      exact Traces_loop hN hb (show p.2.1.length < 4194304 by omega) (show l.length < 4194304 by omega) hc.1 hc.2.1 hc.2.2.1 hc.2.2.2.1 (rangeB.1 hc.2.2.2.2)
end Go.Rx.Px
