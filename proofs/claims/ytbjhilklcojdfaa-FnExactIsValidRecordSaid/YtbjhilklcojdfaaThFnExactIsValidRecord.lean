/- This text proves, of the plain functions behind FnExactIsValidRecord, that the law answers true; no condition beyond the ranges that its arguments have. -/
import Derived.Test.YtbjhilklcojdfaaPxFnExactIsValidRecord
set_option linter.unusedVariables false
set_option linter.unusedSimpArgs false
namespace Go.Rx
theorem wrap_in {n : Int} (h1 : -9223372036854775808 ≤ n) (h2 : n < 9223372036854775808) : IntKind.i64.wrap n = n := by
  simp [IntKind.wrap, IntKind.bits, IntKind.signed]
  omega
theorem iadd_in {a b : Int} (h1 : -9223372036854775808 ≤ a + b) (h2 : a + b < 9223372036854775808) : iadd .i64 a b = a + b := wrap_in h1 h2
theorem isub_in {a b : Int} (h1 : -9223372036854775808 ≤ a - b) (h2 : a - b < 9223372036854775808) : isub .i64 a b = a - b := wrap_in h1 h2
theorem iadd_nat {i : Nat} (h : i < 4611686018427387904) : iadd .i64 (i : Int) 1 = ((i + 1 : Nat) : Int) := by rw [iadd_in (by omega) (by omega)]; omega
@[simp] theorem ilt_eq (a b : Int) : ilt a b = decide (a < b) := rfl
@[simp] theorem ile_eq (a b : Int) : ile a b = decide (a ≤ b) := rfl
@[simp] theorem ieq_eq (a b : Int) : ieq a b = decide (a = b) := rfl
@[simp] theorem ine_eq (a b : Int) : ine a b = !decide (a = b) := rfl
@[simp] theorem len_eq {α : Type} (xs : List α) : len xs = (xs.length : Int) := rfl
@[simp] theorem beq_eq (a b : Bool) : Go.Rx.beq a b = (a == b) := rfl
theorem inB_nat (i n : Nat) : inB (i : Int) n = decide (i < n) := by simp [inB]
theorem inB_true {i n : Nat} (h : i < n) : inB (i : Int) n = true := by simp [inB_nat, h]
@[simp] theorem chk_true' {α : Type} (x : Option α) : chk true x = x := rfl
@[simp] theorem chk_false {α : Type} (x : Option α) : chk false x = none := rfl
theorem first_cases (p : Nat → Bool) : ∀ (n : Nat), (∀ i, i < n → p i = true) ∨ (∃ j, j < n ∧ (∀ i, i < j → p i = true) ∧ p j = false)
  | 0 => .inl fun i h => by omega
  | n + 1 => by
    rcases first_cases p n with h | ⟨j, hj, hb, hat⟩
    · cases hn : p n with
      | true => exact .inl fun i hi => by by_cases e : i = n; exact e ▸ hn; exact h i (by omega)
      | false => exact .inr ⟨n, by omega, h, hn⟩
    · exact .inr ⟨j, by omega, hb, hat⟩
def inRg (lo hi x : Int) : Bool := decide (lo ≤ x) && decide (x ≤ hi)
def RngS (s : ByteArray) : Prop := s.size ≤ maxLen
end Go.Rx
namespace Go.Rx.Px
theorem spec_l1In_eq (N : Nat) (x lo hi : Int) : spec_l1In N x lo hi = some (inRg lo hi x, ()) := by
  simp only [spec_l1In, ile_eq, inRg]; by_cases h : lo ≤ x <;> simp [h]
def chr (s : ByteArray) (i : Nat) : Nat := (s[i]?.getD 0).toNat
theorem sbyte_nat (s : ByteArray) (i : Nat) : sbyte s (i : Int) = (chr s i : Int) := rfl
def plB (s : ByteArray) : Bool := (List.range s.size).all fun i => decide (32 ≤ chr s i) && decide (chr s i ≤ 126)
def hasB (s : ByteArray) (c : Nat) : Bool := (List.range s.size).any fun i => decide (chr s i = c)
theorem chr_list (s : ByteArray) (i : Nat) (h : i < s.size) : s.data.toList[i]? = some (s[i]?.getD 0) := by
  have h1 : i < s.data.toList.length := by simpa using h
  rw [List.getElem?_eq_getElem h1]
  simp [h]
  rfl
theorem plB_iff {s : ByteArray} : plB s = true ↔ ∀ i, i < s.size → 32 ≤ chr s i ∧ chr s i ≤ 126 := by
  simp [plB, List.all_eq_true]
theorem hasB_iff {s : ByteArray} {c : Nat} : hasB s c = true ↔ ∃ i, i < s.size ∧ chr s i = c := by
  simp [hasB, List.any_eq_true]
theorem plB_ascii {s : ByteArray} (h : plB s = true) (h2 : s.size < 4194304) : asciiB s = true := by
  simp only [asciiB, Bool.and_eq_true, decide_eq_true_eq, List.all_eq_true]
  refine ⟨by omega, fun b hb => ?_⟩
  obtain ⟨i, hi, e⟩ := List.mem_iff_getElem.1 hb
  have hi' : i < s.size := by simpa using hi
  have h1 := chr_list s i hi'
  rw [List.getElem?_eq_getElem hi, Option.some.injEq, e] at h1
  have := (plB_iff.1 h) i hi'
  unfold chr at this
  rw [← h1] at this
  omega
theorem any_has (s : ByteArray) (cs : List UInt8) : (s.data.toList.any fun b => cs.contains b) = cs.any fun c => hasB s c.toNat := by
  rw [Bool.eq_iff_iff]
  simp only [List.any_eq_true, List.contains_iff_mem, hasB_iff]
  constructor
  · rintro ⟨b, hb, hc⟩
    obtain ⟨i, hi, e⟩ := List.mem_iff_getElem.1 hb
    have hi' : i < s.size := by simpa using hi
    have h1 := chr_list s i hi'
    rw [List.getElem?_eq_getElem hi, Option.some.injEq, e] at h1
    exact ⟨b, hc, i, hi', by unfold chr; rw [← h1]⟩
  · rintro ⟨c, hc, i, hi, e⟩
    have h1 := chr_list s i hi
    have e2 : s[i]?.getD 0 = c := UInt8.toNat_inj.1 e
    rw [e2] at h1
    exact ⟨c, List.mem_of_getElem? h1, hc⟩
theorem impl_isPlain_eq {N : Nat} {s : ByteArray} {most : Int} {o : ByteArray} (hs : s.size < 4194304) (ho : asciiB o = true) (hN : 4194304 ≤ N) :
    impl_isPlain N s most o = some (plB s && (decide ((s.size : Int) ≤ most) && !(o.data.toList.any fun c => hasB s c.toNat)), ()) := by
  simp only [impl_isPlain, slen]
  rcases first_cases (fun i => decide (32 ≤ chr s i) && decide (chr s i ≤ 126)) s.size with h | ⟨j, hj, hb, hat⟩
  · have hp : plB s = true := plB_iff.2 fun i hi => by simpa using h i hi
    refine impl_isPlain_L1_run N (fun _ => s) (fun _ => most) (fun _ => o) (fun _ => (s.size : Int)) (fun i => (i : Int)) s.size (fun i hi kx => ?_) (fun kx => ?_) N (by omega)
    · have h1 := (plB_iff.1 hp) i hi
      simp only [impl_isPlain_B1, ilt_eq, sbyte_nat, Int.ofNat_lt, hi, decide_true, cond_true, inB_true hi, chk_true', decide_eq_false (show ¬ (chr s i : Int) < 32 by omega), decide_eq_false (show ¬ (126 : Int) < (chr s i : Int) by omega), cond_false, iadd_nat (show i < 4611686018427387904 by omega)]
    · simp only [impl_isPlain_B1, impl_isPlain_K1, ilt_eq, ile_eq, slen, Int.lt_irrefl, decide_false, cond_false, strings_ContainsAny, plB_ascii hp hs, ho, Bool.and_self, chk_true', Option.bind_some, hp, Bool.true_and, any_has]
      cases decide ((s.size : Int) ≤ most) <;> rfl
  · have hp : plB s = false := by
      cases e : plB s with
      | false => rfl
      | true => have := (plB_iff.1 e) j hj; simp [this] at hat
    refine impl_isPlain_L1_run N (fun _ => s) (fun _ => most) (fun _ => o) (fun _ => (s.size : Int)) (fun i => (i : Int)) j (fun i hi kx => ?_) (fun kx => ?_) N (by omega)
    · have h1 := hb i hi
      simp only [Bool.and_eq_true, decide_eq_true_eq] at h1
      simp only [impl_isPlain_B1, ilt_eq, sbyte_nat, Int.ofNat_lt, show i < s.size by omega, decide_true, cond_true, inB_true (show i < s.size by omega), chk_true', decide_eq_false (show ¬ (chr s i : Int) < 32 by omega), decide_eq_false (show ¬ (126 : Int) < (chr s i : Int) by omega), cond_false, iadd_nat (show i < 4611686018427387904 by omega)]
    · simp only [impl_isPlain_B1, ilt_eq, sbyte_nat, Int.ofNat_lt, hj, decide_true, cond_true, inB_true hj, chk_true', hp, Bool.false_and]
      by_cases c : chr s j < 32
      · rw [decide_eq_true (show (chr s j : Int) < 32 by omega)]; rfl
      · have c2 : 126 < chr s j := by
          simp only [Bool.and_eq_false_iff, decide_eq_false_iff_not] at hat
          omega
        rw [decide_eq_false (show ¬ (chr s j : Int) < 32 by omega), decide_eq_true (show (126 : Int) < (chr s j : Int) by omega)]; rfl
theorem impl_isCommand_eq {N : Nat} {s : ByteArray} (hs : s.size < 4194304) (hN : 4194304 ≤ N) :
    impl_isCommand N s = some (!(Go.Rx.seq s (⟨#[]⟩ : ByteArray)) && (plB s && (decide ((s.size : Int) ≤ 160) && !(hasB s 35 || hasB s 64))), ()) := by
  simp only [impl_isCommand, impl_isPlain_eq hs (show asciiB (⟨#[35, 64]⟩ : ByteArray) = true by decide) hN, Option.bind_some]
  cases Go.Rx.seq s (⟨#[]⟩ : ByteArray)
  · simp
  · rfl
def recB (e : ByteArray × ByteArray) : Bool := !(Go.Rx.seq e.1 (⟨#[]⟩ : ByteArray)) && (plB e.1 && (decide ((e.1.size : Int) ≤ 160) && (!(hasB e.1 35) && (!(hasB e.1 64) && (plB e.2 && (decide ((e.2.size : Int) ≤ 200) && !(hasB e.2 35)))))))
theorem impl_IsValidRecord_eq {N : Nat} {e : ByteArray × ByteArray} (h1 : e.1.size < 4194304) (h2 : e.2.size < 4194304) (hN : 4194304 ≤ N) : impl_IsValidRecord N e = some (recB e, ()) := by
  simp only [impl_IsValidRecord, impl_isCommand_eq h1 hN, impl_isPlain_eq h2 (show asciiB (⟨#[35]⟩ : ByteArray) = true by decide) hN, Option.bind_some, recB]
  cases Go.Rx.seq e.1 (⟨#[]⟩ : ByteArray) <;> cases plB e.1 <;> cases decide ((e.1.size : Int) ≤ 160) <;> cases hasB e.1 35 <;> cases hasB e.1 64 <;> simp
theorem icv_chr (n : Nat) (h : n < 256) : icv .i64 (n : Int) = (n : Int) := by
  simp only [icv]; exact wrap_in (by omega) (by omega)
theorem chr_lt (s : ByteArray) (i : Nat) : chr s i < 256 := UInt8.toNat_lt _
theorem spec_l12Bytes_eq {N : Nat} {s : ByteArray} {most : Int} (hs : s.size < 4194304) (hN : 4194304 ≤ N) :
    spec_l12Bytes N s most = some (plB s && (!(hasB s 35) && decide ((s.size : Int) ≤ most)), ()) := by
  simp only [spec_l12Bytes]
  rcases first_cases (fun i => (decide (32 ≤ chr s i) && decide (chr s i ≤ 126)) && !decide (chr s i = 35)) s.size with h | ⟨j, hj, hb, hat⟩
  · have hh : ∀ i, i < s.size → (32 ≤ chr s i ∧ chr s i ≤ 126) ∧ ¬ chr s i = 35 := fun i hi => by simpa using h i hi
    have hp : plB s = true := plB_iff.2 fun i hi => (hh i hi).1
    have hq : hasB s 35 = false := by
      cases e : hasB s 35 with
      | false => rfl
      | true => obtain ⟨i, hi, e2⟩ := hasB_iff.1 e; exact absurd e2 (hh i hi).2
    refine spec_l12Bytes_L1_run N (fun _ => s) (fun _ => most) (fun i => (i : Int)) s.size (fun i hi kx => ?_) (fun kx => ?_) N (by omega)
    · have h1 := hh i hi
      simp only [spec_l12Bytes_B1, slen, ilt_eq, ieq_eq, sbyte_nat, icv_chr _ (chr_lt s i), spec_l1In_eq, inRg, Int.ofNat_lt, hi, decide_true, cond_true, inB_true hi, chk_true', Option.bind_some, decide_eq_true (show (32 : Int) ≤ (chr s i : Int) by omega), decide_eq_true (show (chr s i : Int) ≤ 126 by omega), Bool.and_self, Bool.not_true, decide_eq_false (show ¬ (chr s i : Int) = 35 by omega), cond_false, iadd_nat (show i < 4611686018427387904 by omega)]
    · simp only [spec_l12Bytes_B1, spec_l12Bytes_K1, slen, ilt_eq, ile_eq, Int.lt_irrefl, decide_false, cond_false, hp, hq, Bool.true_and, Bool.not_false]
  · have hat' : ¬ ((32 ≤ chr s j ∧ chr s j ≤ 126) ∧ ¬ chr s j = 35) := fun h => by simp [h.1.1, h.1.2, h.2] at hat
    have hp : (plB s && (!(hasB s 35) && decide ((s.size : Int) ≤ most))) = false := by
      cases e : plB s with
      | false => rfl
      | true =>
        have h1 := (plB_iff.1 e) j hj
        rw [hasB_iff.2 ⟨j, hj, by omega⟩]; rfl
    rw [hp]
    refine spec_l12Bytes_L1_run N (fun _ => s) (fun _ => most) (fun i => (i : Int)) j (fun i hi kx => ?_) (fun kx => ?_) N (by omega)
    · have h1 := hb i hi
      simp only [Bool.and_eq_true, decide_eq_true_eq, Bool.not_eq_true', decide_eq_false_iff_not] at h1
      simp only [spec_l12Bytes_B1, slen, ilt_eq, ieq_eq, sbyte_nat, icv_chr _ (chr_lt s i), spec_l1In_eq, inRg, Int.ofNat_lt, show i < s.size by omega, decide_true, cond_true, inB_true (show i < s.size by omega), chk_true', Option.bind_some, decide_eq_true (show (32 : Int) ≤ (chr s i : Int) by omega), decide_eq_true (show (chr s i : Int) ≤ 126 by omega), Bool.and_self, Bool.not_true, decide_eq_false (show ¬ (chr s i : Int) = 35 by omega), cond_false, iadd_nat (show i < 4611686018427387904 by omega)]
    · simp only [spec_l12Bytes_B1, slen, ilt_eq, ieq_eq, sbyte_nat, icv_chr _ (chr_lt s j), spec_l1In_eq, inRg, Int.ofNat_lt, hj, decide_true, cond_true, inB_true hj, chk_true', Option.bind_some]
      by_cases c : 32 ≤ chr s j ∧ chr s j ≤ 126
      · have c2 : chr s j = 35 := by omega
        rw [c2]; rfl
      · by_cases c1 : 32 ≤ chr s j
        · rw [decide_eq_true (show (32 : Int) ≤ (chr s j : Int) by omega), decide_eq_false (show ¬ (chr s j : Int) ≤ 126 by omega)]; rfl
        · rw [decide_eq_false (show ¬ (32 : Int) ≤ (chr s j : Int) by omega)]; rfl
theorem spec_l1Stands_eq {N : Nat} {s : ByteArray} {c : Nat} (hs : s.size < 4194304) (hN : 4194304 ≤ N) :
    spec_l1Stands N s (c : Int) = some (hasB s c, ()) := by
  simp only [spec_l1Stands]
  rcases first_cases (fun i => !decide (chr s i = c)) s.size with h | ⟨j, hj, hb, hat⟩
  · have hh : ∀ i, i < s.size → ¬ chr s i = c := fun i hi => by simpa using h i hi
    have hq : hasB s c = false := by
      cases e : hasB s c with
      | false => rfl
      | true => obtain ⟨i, hi, e2⟩ := hasB_iff.1 e; exact absurd e2 (hh i hi)
    refine spec_l1Stands_L1_run N (fun _ => s) (fun _ => (c : Int)) (fun i => (i : Int)) s.size (fun i hi kx => ?_) (fun kx => ?_) N (by omega)
    · have h1 := hh i hi
      simp only [spec_l1Stands_B1, slen, ilt_eq, ieq_eq, sbyte_nat, Int.ofNat_lt, hi, decide_true, cond_true, inB_true hi, chk_true', decide_eq_false (show ¬ (chr s i : Int) = c by omega), cond_false, iadd_nat (show i < 4611686018427387904 by omega)]
    · simp only [spec_l1Stands_B1, spec_l1Stands_K1, slen, ilt_eq, Int.lt_irrefl, decide_false, cond_false, hq]
  · have hat' : chr s j = c := by simpa using hat
    refine spec_l1Stands_L1_run N (fun _ => s) (fun _ => (c : Int)) (fun i => (i : Int)) j (fun i hi kx => ?_) (fun kx => ?_) N (by omega)
    · have h1 : ¬ chr s i = c := by simpa using hb i hi
      simp only [spec_l1Stands_B1, slen, ilt_eq, ieq_eq, sbyte_nat, Int.ofNat_lt, show i < s.size by omega, decide_true, cond_true, inB_true (show i < s.size by omega), chk_true', decide_eq_false (show ¬ (chr s i : Int) = c by omega), cond_false, iadd_nat (show i < 4611686018427387904 by omega)]
    · rw [hasB_iff.2 ⟨j, hj, hat'⟩]
      simp only [spec_l1Stands_B1, slen, ilt_eq, ieq_eq, sbyte_nat, Int.ofNat_lt, hj, decide_true, cond_true, inB_true hj, chk_true', hat']
theorem spec_IsValidRecord_eq {N : Nat} {e : ByteArray × ByteArray} (h1 : e.1.size < 4194304) (h2 : e.2.size < 4194304) (hN : 4194304 ≤ N) : spec_IsValidRecord N e = some (recB e, ()) := by
  simp only [spec_IsValidRecord, spec_l12Record, spec_l12Bytes_eq h1 hN, spec_l12Bytes_eq h2 hN, show spec_l1Stands N e.1 64 = some (hasB e.1 64, ()) from spec_l1Stands_eq (c := 64) h1 hN, Option.bind_some, recB]
  cases Go.Rx.seq e.1 (⟨#[]⟩ : ByteArray) <;> cases plB e.1 <;> cases hasB e.1 35 <;> cases decide ((e.1.size : Int) ≤ 160) <;> cases hasB e.1 64 <;> cases plB e.2 <;> cases hasB e.2 35 <;> cases decide ((e.2.size : Int) ≤ 200) <;> rfl
abbrev RngR (e : ByteArray × ByteArray) : Prop := RngS e.1 ∧ RngS e.2
theorem laws_szLogRecord_eq (N : Nat) {e : ByteArray × ByteArray} {left : Int} (h : RngR e) (h1 : 0 ≤ left) (h2 : left ≤ 1048576) : ∃ r, laws_szLogRecord N e left = some (r, ()) ∧ (r < 0 ∨ 0 ≤ r ∧ r ≤ left ∧ (e.1.size : Int) ≤ left ∧ (e.2.size : Int) ≤ left) := by
  obtain ⟨a, b⟩ := h
  unfold RngS maxLen at a b
  simp only [laws_szLogRecord, slen, ilt_eq, isub_in (show -9223372036854775808 ≤ left - e.1.size by omega) (by omega)]
  by_cases c : left - (e.1.size : Int) < 0
  · exact ⟨-1, by simp [c], .inl (by omega)⟩
  · rw [isub_in (show -9223372036854775808 ≤ left - (e.1.size : Int) - e.2.size by omega) (by omega)]
    by_cases c2 : left - (e.1.size : Int) - e.2.size < 0
    · exact ⟨-1, by simp [c, c2], .inl (by omega)⟩
    · exact ⟨left - e.1.size - e.2.size, by simp [c, c2], .inr (by omega)⟩
theorem laws_FnExactIsValidRecord_law (e : ByteArray × ByteArray) (h : RngR e) : ∃ N, laws_FnExactIsValidRecord N e = some (true, ()) := by
  refine ⟨4194304, ?_⟩
  obtain ⟨r, e1, q⟩ := laws_szLogRecord_eq 4194304 h (show (0 : Int) ≤ 1048576 by omega) (by omega)
  simp only [laws_FnExactIsValidRecord, e1, Option.bind_some, ilt_eq]
  rcases q with q | ⟨q, q1, q2, q3⟩
  · rw [decide_eq_true q]; rfl
  · have hn := Nat.le_refl 4194304
    rw [decide_eq_false (show ¬ r < 0 by omega)]
    simp only [cond_false, laws_toLogRecord, Option.bind_some, spec_IsValidRecord_eq (e := (e.1, e.2)) (show e.1.size < 4194304 by omega) (show e.2.size < 4194304 by omega) hn, impl_IsValidRecord_eq (e := (e.1, e.2)) (show e.1.size < 4194304 by omega) (show e.2.size < 4194304 by omega) hn]
    cases recB (e.1, e.2) <;> rfl
end Go.Rx.Px
