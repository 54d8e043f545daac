/- This text proves, of the plain functions behind FnNested, that the law answers true (part 2 of 2); no condition beyond the ranges that its arguments have. -/
import Derived.Test.YtkkmjhibacgmfabThAFnNested
set_option linter.unusedVariables false
set_option linter.unusedSimpArgs false
namespace Go.Rx.Px
theorem outV_bd {c : Ch} (hc : ChainP c) : ∀ d a, c.1.length - a = d → 0 ≤ outV c a ∧ outV c a ≤ 40000 * (d : Int) := by
  intro d
  induction d using Nat.strongRecOn with
  | _ d ih =>
    intro a hd
    refine ⟨outV_nn hc d a hd, ?_⟩
    have hs1 := hc.s1
    rcases Nat.lt_or_ge a c.1.length with h | h
    · have h1 := (ih (c.1.length - (a + 1)) (by omega) (a + 1) rfl).2
      by_cases hz : gd c.1 a 0 = 0
      · rw [outV_zero h hz]; omega
      · have h2 := (outV_is hc h hz).2 (a + 1) (by omega) (by omega)
        have h3 := giveG_bd hc (fuelG c) (s := 0) (by omega) (Nat.le_refl a) (Nat.le_succ a) (show a + 1 ≤ c.1.length by omega)
        have h4 := hc.b1 0 (by omega)
        have h5 : giveG c (fuelG c) 0 a a (a + 1) ≤ 30000 := h3.2
        omega
    · rw [outV_end h]; omega
def outTab (c : Ch) (a : Nat) (v : Int) : List Int := (List.range (c.1.length + 1)).map fun q => if q = a then v else if a < q then outV c q else 0
theorem outTab_len (c : Ch) (a : Nat) (v : Int) : (outTab c a v).length = c.1.length + 1 := by simp [outTab]
theorem outTab_gd (c : Ch) (a : Nat) (v : Int) {q : Nat} (h : q ≤ c.1.length) : gd (outTab c a v) q 0 = if q = a then v else if a < q then outV c q else 0 := gd_map_range _ 0 (by omega)
theorem outTab_set {c : Ch} {a : Nat} (v u : Int) (ha : a ≤ c.1.length) : List.set (outTab c a v) a u = outTab c a u := gd_ext (by simp [outTab_len]) fun i hi => by
  simp only [List.length_set, outTab_len] at hi
  rw [gd_set (by rw [outTab_len]; omega), outTab_gd c a v (by omega), outTab_gd c a u (by omega)]
  by_cases e : i = a
  · rw [if_pos e, if_pos e]
  · rw [if_neg e, if_neg e, if_neg e]
theorem outTab_down {c : Ch} {a : Nat} (ha : a < c.1.length) : outTab c (a + 1) (outV c (a + 1)) = outTab c a 0 := gd_ext (by simp [outTab_len]) fun i hi => by
  simp only [outTab_len] at hi
  rw [outTab_gd c _ _ (by omega), outTab_gd c _ _ (by omega)]
  by_cases e : i = a + 1
  · subst e; rw [if_pos rfl, if_neg (by omega), if_pos (by omega)]
  · by_cases e2 : i = a
    · subst e2; rw [if_neg e, if_neg (by omega), if_pos rfl]
    · rw [if_neg e, if_neg e2]
      by_cases e3 : a < i
      · rw [if_pos e3, if_pos (by omega)]
      · rw [if_neg e3, if_neg (by omega)]
theorem best_row {N : Nat} {c : Ch} (hc : ChainP c) (hN : 4194304 ≤ N) (kx : Int → Int → Ch → List Int → Option (Int × Unit)) {a : Nat} (ha : a < c.1.length) (hz : gd c.1 a 0 ≠ 0) :
    Q64_L1 N N kx (c.1.length : Int) (a : Nat) ((a + 1 : Nat) : Int) c (outTab c a (-1)) = kx (c.1.length : Int) (isub .i64 (a : Nat) 1) c (outTab c a (outV c a)) := by
  have hn := hc.n
  have hs1 := hc.s1
  rw [outV_step ha hz]
  have hbd : ∀ i, i ≤ c.1.length - a → -1 ≤ outTo c (outV c) a i ∧ outTo c (outV c) a i ≤ 400000 := by
    intro i
    induction i with
    | zero => intro _; simp only [outTo]; omega
    | succ i ih =>
      intro hi
      have h1 := ih (by omega)
      have h2 := giveG_bd hc (fuelG c) (s := 0) (by omega) (Nat.le_refl a) (show a ≤ a + 1 + i by omega) (show a + 1 + i ≤ c.1.length by omega)
      have h3 := hc.b1 0 (by omega)
      have h4 := outV_bd hc _ (a + 1 + i) rfl
      simp only [outTo, less0]
      split <;> omega
  refine Q64_L1_run N kx (fun _ => (c.1.length : Int)) (fun _ => ((a : Nat) : Int)) (fun i => ((a + 1 + i : Nat) : Int)) (fun _ => c) (fun i => outTab c a (outTo c (outV c) a i)) (c.1.length - a) (fun i hi kx1 => ?_) (fun kx1 => ?_) N (by omega)
  · have h2 := giveG_bd hc (fuelG c) (s := 0) (by omega) (Nat.le_refl a) (show a ≤ a + 1 + i by omega) (show a + 1 + i ≤ c.1.length by omega)
    have h3 := hc.b1 0 (by omega)
    have h4 := outV_bd hc _ (a + 1 + i) rfl
    have h5 := hbd i (by omega)
    have e1 : gd (outTab c a (outTo c (outV c) a i)) (a + 1 + i) 0 = outV c (a + 1 + i) := by rw [outTab_gd c _ _ (by omega), if_neg (by omega), if_pos (by omega)]
    have e2 : gd (outTab c a (outTo c (outV c) a i)) a 0 = outTo c (outV c) a i := by rw [outTab_gd c _ _ (by omega), if_pos rfl]
    simp only [Q64_B1, ile_eq, Int.ofNat_le, show a + 1 + i ≤ c.1.length by omega, decide_true, cond_true, inB_in (i := 0) (n := c.2.1.length) (by omega) (by omega), chk_true', spec_l7Give_eq hc hN (show a ≤ a + 1 + i by omega) (show a + 1 + i ≤ c.1.length by omega), Option.bind_some, inB_true (show a + 1 + i < (outTab c a (outTo c (outV c) a i)).length by rw [outTab_len]; omega), inB_true (show a < (outTab c a (outTo c (outV c) a i)).length by rw [outTab_len]; omega), Int.toNat_natCast, e1, e2, ilt_eq, iadd_nat (show a + 1 + i < 4611686018427387904 by omega)]
    rw [iadd_in (a := gd c.2.1 0 0) (by omega) (by omega), iadd_in (by omega) (by omega)]
    simp only [outTab_set _ _ (show a ≤ c.1.length by omega)]
    simp only [outTo, less0]
    by_cases q1 : outTo c (outV c) a i < 0
    · simp [q1]; rfl
    · by_cases q2 : gd c.2.1 0 0 + giveG c (fuelG c) 0 a a (a + 1 + i) + outV c (a + 1 + i) < outTo c (outV c) a i
      · simp [q1, q2]; rfl
      · simp [q1, q2]; rfl
  · simp only [Q64_B1, Q64_K1, ile_eq, Int.ofNat_le, show ¬ a + 1 + (c.1.length - a) ≤ c.1.length by omega, decide_false, cond_false]
theorem spec_l7Best_eq {N : Nat} {c : Ch} (hc : ChainP c) (hN : 4194304 ≤ N) : Q64 N c = some (outV c 0, ()) := by
  have hn := hc.n
  have e0 : iadd .i64 (len c.1) 1 = ((c.1.length + 1 : Nat) : Int) := iadd_nat (show c.1.length < 4611686018427387904 by omega)
  have e1 : List.replicate (c.1.length + 1) (0 : Int) = outTab c c.1.length (outV c c.1.length) := gd_ext (by simp [outTab_len]) fun i hi => by
    simp only [List.length_replicate] at hi
    rw [gd_rep 0 hi, outTab_gd c _ _ (by omega)]
    by_cases e : i = c.1.length
    · rw [if_pos e, outV_end (Nat.le_refl _)]
    · rw [if_neg e, if_neg (by omega)]
  simp only [Q64, e0, mkB_in (n := c.1.length + 1) (b := 8) (by omega) (by omega), chk_true', Int.toNat_natCast, e1]
  rw [len_eq, isub_in (by omega) (by omega)]
  suffices key : Q64_L2 N N (c.1.length : Int) ((c.1.length : Int) - 1 - ((0 : Nat) : Int)) c (outTab c (c.1.length - 0) (outV c (c.1.length - 0))) = some (outV c 0, ()) by
    rw [show (c.1.length : Int) - 1 - ((0 : Nat) : Int) = (c.1.length : Int) - 1 by omega, Nat.sub_zero] at key
    exact key
  refine Q64_L2_run N (fun _ => (c.1.length : Int)) (fun j => (c.1.length : Int) - 1 - (j : Int)) (fun _ => c) (fun j => outTab c (c.1.length - j) (outV c (c.1.length - j))) c.1.length (fun j hj kx => ?_) (fun kx => ?_) N (by omega)
  · obtain ⟨a, ha⟩ : ∃ a, c.1.length - j = a + 1 := ⟨c.1.length - j - 1, by omega⟩
    have ha2 : (c.1.length : Int) - 1 - (j : Int) = (a : Nat) := by omega
    have ha3 : c.1.length - (j + 1) = a := by omega
    have ha4 : (c.1.length : Int) - 1 - ((j + 1 : Nat) : Int) = isub .i64 ((a : Nat) : Int) 1 := by rw [isub_in (by omega) (by omega)]; omega
    rw [ha, ha2, ha3, ha4, outTab_down (show a < c.1.length by omega)]
    simp only [Q64_B2, ile_eq, show (0 : Int) ≤ ((a : Nat) : Int) by omega, decide_true, cond_true, inB_true (show a < c.1.length by omega), chk_true', Int.toNat_natCast, ieq_eq, iadd_nat (show a < 4611686018427387904 by omega), inB_true (show a + 1 < (outTab c a 0).length by rw [outTab_len]; omega), inB_true (show a < (outTab c a 0).length by rw [outTab_len]; omega), outTab_set _ _ (show a ≤ c.1.length by omega)]
    by_cases hz : gd c.1 a 0 = 0
    · simp only [hz, decide_true, cond_true]
      rw [outTab_gd c a 0 (show a + 1 ≤ c.1.length by omega), if_neg (by omega), if_pos (by omega), outV_zero (by omega) hz]
    · simp only [hz, decide_false, cond_false]
      exact best_row hc hN kx (by omega) hz
  · have e2 : (c.1.length : Int) - 1 - ((c.1.length : Nat) : Int) = -1 := by omega
    rw [e2]
    simp only [Q64_B2, Q64_K2, ile_eq, show ¬ (0 : Int) ≤ -1 by omega, decide_false, cond_false, Nat.sub_self, inB_in (i := 0) (n := (outTab c 0 (outV c 0)).length) (by omega) (by rw [outTab_len]; omega), chk_true', outTab_gd c 0 _ (Nat.zero_le _), if_true]
def bestCh (c : Ch) : Int × Bool := bif chainB c then (outV c 0, true) else (0, false)
theorem spec_BestChainCost_eq {N : Nat} {c : Ch} (hs : SmCh c) (hN : 4194304 ≤ N) : Q42 N c = some (bestCh c, ()) := by
  simp only [Q42, spec_l7Good_eq hs hN, Option.bind_some, bif_not, bestCh]
  cases h : chainB c with
  | false => rfl
  | true => simp only [cond_true, spec_l7Best_eq (chainP h) hN, Option.bind_some]
end Go.Rx.Px
namespace Go.Rx
def cmpG {α : Type} (f : α → α → Int) : List α → List α → Int
  | [], [] => 0
  | [], _ :: _ => -1
  | _ :: _, [] => 1
  | x :: xs, y :: ys => if f x y = 0 then cmpG f xs ys else f x y
structure CmpOk {α : Type} (f : α → α → Int) : Prop where
  eq : ∀ x y, f x y = 0 → x = y
  self : ∀ x, f x x = 0
  anti : ∀ x y, f y x = -f x y
  trans : ∀ x y z, f x y < 0 → f y z < 0 → f x z < 0
theorem cmpG_self {α : Type} {f : α → α → Int} (h : CmpOk f) : ∀ xs, cmpG f xs xs = 0
  | [] => rfl
  | x :: xs => by simp only [cmpG, h.self, if_true]; exact cmpG_self h xs
theorem cmpG_eq {α : Type} {f : α → α → Int} (h : CmpOk f) : ∀ xs ys, cmpG f xs ys = 0 → xs = ys
  | [], [], _ => rfl
  | [], _ :: _, e => by simp [cmpG] at e
  | _ :: _, [], e => by simp [cmpG] at e
  | x :: xs, y :: ys, e => by
    simp only [cmpG] at e
    by_cases q : f x y = 0
    · rw [if_pos q] at e; rw [h.eq x y q, cmpG_eq h xs ys e]
    · rw [if_neg q] at e; exact absurd e q
theorem cmpG_anti {α : Type} {f : α → α → Int} (h : CmpOk f) : ∀ xs ys, cmpG f ys xs = -cmpG f xs ys
  | [], [] => rfl
  | [], _ :: _ => rfl
  | _ :: _, [] => rfl
  | x :: xs, y :: ys => by
    simp only [cmpG]
    have h1 := h.anti x y
    by_cases q : f x y = 0
    · rw [if_pos q, if_pos (by omega)]; exact cmpG_anti h xs ys
    · rw [if_neg q, if_neg (by omega)]; exact h1
theorem cmpG_trans {α : Type} {f : α → α → Int} (h : CmpOk f) : ∀ xs ys zs, cmpG f xs ys < 0 → cmpG f ys zs < 0 → cmpG f xs zs < 0
  | [], [], _, a, _ => by simp [cmpG] at a
  | [], _ :: _, [], _, b => by simp [cmpG] at b
  | [], _ :: _, _ :: _, _, _ => by simp [cmpG]
  | _ :: _, [], _, a, _ => by simp [cmpG] at a
  | _ :: _, _ :: _, [], _, b => by simp [cmpG] at b
  | x :: xs, y :: ys, z :: zs, a, b => by
    simp only [cmpG] at a b ⊢
    by_cases q1 : f x y = 0
    · rw [if_pos q1] at a
      have e := h.eq x y q1
      subst e
      by_cases q2 : f x z = 0
      · rw [if_pos q2] at b ⊢; exact cmpG_trans h xs ys zs a b
      · rw [if_neg q2] at b ⊢; exact b
    · rw [if_neg q1] at a
      by_cases q2 : f y z = 0
      · have e := h.eq y z q2
        subst e
        rw [if_neg q1]; exact a
      · rw [if_neg q2] at b
        have h3 := h.trans x y z a b
        rw [if_neg (by omega)]; exact h3
theorem cmpG_ok {α : Type} {f : α → α → Int} (h : CmpOk f) : CmpOk (cmpG f) := ⟨cmpG_eq h, cmpG_self h, cmpG_anti h, cmpG_trans h⟩
def cmpI (x y : Int) : Int := if x < y then -1 else if y < x then 1 else 0
theorem cmpI_ok : CmpOk cmpI := by
  refine ⟨fun x y h => ?_, fun x => ?_, fun x y => ?_, fun x y z h1 h2 => ?_⟩
  · unfold cmpI at h; split at h
    · omega
    · split at h <;> omega
  · unfold cmpI; simp
  · unfold cmpI
    by_cases a : x < y
    · rw [if_pos a, if_neg (by omega), if_pos a]; rfl
    · by_cases b : y < x
      · rw [if_pos b, if_neg a, if_pos b]
      · rw [if_neg a, if_neg b, if_neg b, if_neg a]; rfl
  · unfold cmpI at h1 h2 ⊢
    have a1 : x < y := by
      rcases Int.lt_or_le x y with q | q
      · exact q
      · rw [if_neg (by omega)] at h1; split at h1 <;> omega
    have a2 : y < z := by
      rcases Int.lt_or_le y z with q | q
      · exact q
      · rw [if_neg (by omega)] at h2; split at h2 <;> omega
    rw [if_pos (by omega)]; omega
abbrev cmpL : List Int → List Int → Int := cmpG cmpI
abbrev cmpLL : List (List Int) → List (List Int) → Int := cmpG cmpL
theorem cmpL_ok : CmpOk cmpL := cmpG_ok cmpI_ok
theorem cmpLL_ok : CmpOk cmpLL := cmpG_ok cmpL_ok
theorem drop_gd {α : Type} {xs : List α} {i : Nat} (d : α) (h : i < xs.length) : xs.drop i = gd xs i d :: xs.drop (i + 1) := by
  rw [List.drop_eq_getElem_cons h]
  simp [gd, List.getD_eq_getElem?_getD, List.getElem?_eq_getElem h]
theorem drop_out {α : Type} {xs : List α} {i : Nat} (h : xs.length ≤ i) : xs.drop i = [] := List.drop_eq_nil_of_le h
end Go.Rx
namespace Go.Rx.Px
theorem slices_Compare_loop (N : Nat) {a b : List Int} (ha : a.length < 4194304) : ∀ d i, a.length - i = d → i ≤ a.length → ∀ m, d < m → Q38_L1 N m a b a (a.length : Int) (i : Nat) = some (cmpL (a.drop i) (b.drop i), ())
  | d, i, hd, hi, 0, hm => by omega
  | d, i, hd, hi, m + 1, hm => by
    rw [Q38_L1_succ]
    simp only [Q38_B1, ilt_eq, Int.ofNat_lt, len_eq, ile_eq, Int.ofNat_le, cmp_Compare_int_eq, Option.bind_some, Int.toNat_natCast]
    by_cases h : i < a.length
    · rw [drop_gd 0 h]
      simp only [h, decide_true, cond_true, inB_true h, chk_true']
      by_cases h2 : b.length ≤ i
      · rw [drop_out h2]; simp only [h2, decide_true, cond_true]; rfl
      · have h3 : i < b.length := by omega
        rw [drop_gd 0 h3]
        simp only [h2, decide_false, cond_false, inB_true h3, chk_true', iadd_nat (show i < 4611686018427387904 by omega), ine_eq]
        have ih := slices_Compare_loop N (b := b) ha (d - 1) (i + 1) (by omega) (by omega) m (by omega)
        rw [ih]
        show _ = some (if cmpI (gd a i 0) (gd b i 0) = 0 then cmpL (a.drop (i + 1)) (b.drop (i + 1)) else cmpI (gd a i 0) (gd b i 0), ())
        show (bif !decide (cmpI (gd a i 0) (gd b i 0) = 0) then some (cmpI (gd a i 0) (gd b i 0), ()) else _) = _
        by_cases q : cmpI (gd a i 0) (gd b i 0) = 0
        · simp [q]
        · simp [q]
    · have e : i = a.length := by omega
      rw [drop_out (xs := a) (by omega)]
      simp only [h, decide_false, cond_false, Q38_K1, ilt_eq, len_eq, Int.ofNat_lt]
      by_cases h2 : a.length < b.length
      · rw [drop_gd 0 (show i < b.length by omega)]; simp only [h2, decide_true, cond_true]; rfl
      · rw [drop_out (xs := b) (by omega)]; simp only [h2, decide_false, cond_false]; rfl
theorem slices_Compare_eq {N : Nat} {a b : List Int} (ha : a.length < 4194304) (hN : 4194304 ≤ N) : Q38 N a b = some (cmpL a b, ()) := by
  have := slices_Compare_loop N (b := b) ha a.length 0 (by omega) (Nat.zero_le _) N (by omega)
  simpa [Q38] using this
theorem CompareFunc_loop (N : Nat) {a b : Pl} (ha : SmPl a) (hN : 4194304 ≤ N) : ∀ d i, a.length - i = d → i ≤ a.length → ∀ m, d < m → Q37_L1 N m a b a (a.length : Int) (i : Nat) = some (cmpLL (a.drop i) (b.drop i), ())
  | d, i, hd, hi, 0, hm => by omega
  | d, i, hd, hi, m + 1, hm => by
    have hal := ha.l
    rw [Q37_L1_succ]
    simp only [Q37_B1, ilt_eq, Int.ofNat_lt, len_eq, ile_eq, Int.ofNat_le, Int.toNat_natCast]
    by_cases h : i < a.length
    · rw [drop_gd [] h]
      simp only [h, decide_true, cond_true, inB_true h, chk_true', Q12, slices_Compare_eq (ha.r i h) hN, Option.bind_some]
      by_cases h2 : b.length ≤ i
      · rw [drop_out h2]; simp only [h2, decide_true, cond_true]; rfl
      · have h3 : i < b.length := by omega
        rw [drop_gd [] h3]
        simp only [h2, decide_false, cond_false, inB_true h3, chk_true', iadd_nat (show i < 4611686018427387904 by omega), ine_eq]
        have ih := CompareFunc_loop N (b := b) ha hN (d - 1) (i + 1) (by omega) (by omega) m (by omega)
        rw [ih]
        show _ = some (if cmpL (gd a i []) (gd b i []) = 0 then cmpLL (a.drop (i + 1)) (b.drop (i + 1)) else cmpL (gd a i []) (gd b i []), ())
        by_cases q : cmpL (gd a i []) (gd b i []) = 0
        · simp [q]
        · simp [q]
    · have e : i = a.length := by omega
      rw [drop_out (xs := a) (by omega)]
      simp only [h, decide_false, cond_false, Q37_K1, ilt_eq, len_eq, Int.ofNat_lt]
      by_cases h2 : a.length < b.length
      · rw [drop_gd [] (show i < b.length by omega)]; simp only [h2, decide_true, cond_true]; rfl
      · rw [drop_out (xs := b) (by omega)]; simp only [h2, decide_false, cond_false]; rfl
theorem CompareFunc_eq {N : Nat} {a b : Pl} (ha : SmPl a) (hN : 4194304 ≤ N) : Q37 N a b = some (cmpLL a b, ()) := by
  have := CompareFunc_loop N (b := b) ha hN a.length 0 (by omega) (Nat.zero_le _) N (by have := ha.l; omega)
  simpa [Q37] using this
def famL (A : Nat → Nat → Bool) (K n : Nat) : Pl := (List.range K).map fun s => pns (A s) n
theorem famL_len (A : Nat → Nat → Bool) (K n : Nat) : (famL A K n).length = K := map_range_len _ _
theorem famL_gd (A : Nat → Nat → Bool) (K n : Nat) {s : Nat} (h : s < K) : gd (famL A K n) s [] = pns (A s) n := gd_map_range _ [] h
theorem famL_sm (A : Nat → Nat → Bool) {K n : Nat} (hK : K < 4194304) (hn : n < 4194304) : SmPl (famL A K n) := ⟨by rw [famL_len]; exact hK, fun s hs => by
  rw [famL_len] at hs
  rw [famL_gd A K n hs]
  have := cnt_le (A s) n
  unfold cnt at this; omega⟩
def covAll (c : Ch) (A : Nat → Nat → Bool) : Bool := (List.range c.2.1.length).all fun s => covS (A s) c.1
theorem covAll_iff {c : Ch} {A : Nat → Nat → Bool} : covAll c A = true ↔ ∀ s, s < c.2.1.length → covS (A s) c.1 = true := rangeB
theorem range_take {α : Type} (f : Nat → α) : ∀ n, (List.range (n + 1)).map f = (List.range n).map f ++ [f n] := fun n => by rw [List.range_succ, List.map_append]; rfl
theorem evenC0_P {c : Ch} (hc : ChainP c) : CaseP (evenC c.1 0 0) := evenC_P hc.n hc.b0 (by omega) (by omega)
theorem impl_Chain_nested_eq {N : Nat} {c : Ch} (hc : ChainP c) (A : Nat → Nat → Bool) (hN : 4194304 ≤ N) : Q14 N c (famL A c.2.1.length c.1.length) = some (bif covAll c A then (nestPlan c A, true) else ([], false), ()) := by
  have h3 := hc.s3
  have hn := hc.n
  have step : ∀ s, s < c.2.1.length → ∀ kx out, out.length < 1000 → Q14_B1 N kx (famL A c.2.1.length c.1.length) (c.2.1.length : Int) (s : Nat) c out = bif covS (A s) c.1 then kx (famL A c.2.1.length c.1.length) (c.2.1.length : Int) ((s + 1 : Nat) : Int) c (out ++ [planS (A s) c.1]) else some (([], false), ()) := fun s hs kx out ho => by
    have hpf := impl_Case_planFrom_eq (evenC0_P hc) (A s) hN
    have e1 : (evenC c.1 0 0).1 = c.1 := rfl
    rw [e1] at hpf
    simp only [Q14_B1, ilt_eq, Int.ofNat_lt, hs, decide_true, cond_true, inB_true (show s < (famL A c.2.1.length c.1.length).length by rw [famL_len]; exact hs), chk_true', impl_evenCase_eq 0 0 hn hN, Option.bind_some, Int.toNat_natCast, famL_gd A _ _ hs, hpf, bif_not, iadd_nat (show s < 4611686018427387904 by omega)]
    cases covS (A s) c.1 with
    | false => rfl
    | true => simp only [cond_true, chk_of (fitB_in (n := out.length + 1) (b := 24) (by omega) (by omega))]
  simp only [Q14, len_eq, famL_len]
  rcases range_cases (fun s => covS (A s) c.1) c.2.1.length with ⟨h1, h2⟩ | ⟨h1, j, h2, h4, h5⟩
  · have h1' : covAll c A = true := h1
    rw [h1']
    refine Q14_L1_run N (fun _ => famL A c.2.1.length c.1.length) (fun _ => (c.2.1.length : Int)) (fun s => (s : Int)) (fun _ => c) (fun s => (List.range s).map fun s => planS (A s) c.1) c.2.1.length (fun s hs kx => ?_) (fun kx => ?_) N (by omega)
    · rw [step s hs kx _ (by simp; omega), h2 s hs]; simp only [cond_true, range_take]
    · simp only [Q14_B1, Q14_K1, ilt_eq, Int.lt_irrefl, decide_false, cond_false, cond_true]; rfl
  · have h1' : covAll c A = false := h1
    rw [h1']
    refine Q14_L1_run N (fun _ => famL A c.2.1.length c.1.length) (fun _ => (c.2.1.length : Int)) (fun s => (s : Int)) (fun _ => c) (fun s => (List.range s).map fun s => planS (A s) c.1) j (fun s hs kx => ?_) (fun kx => ?_) N (by omega)
    · rw [step s (by omega) kx _ (by simp; omega), h4 s hs]; simp only [cond_true, range_take]
    · rw [step j h2 kx _ (by simp; omega), h5]; rfl
def digB (B k i : Nat) : Nat := k / B ^ i % B
def codeA (K k : Nat) (s i : Nat) : Bool := decide (K ≤ s + digB (K + 1) k i)
theorem codeA_nested (K k n : Nat) : NestedA (codeA K k) n K := fun s _ p _ h => by
  simp only [codeA, decide_eq_true_eq] at h ⊢; omega
theorem digits {B : Nat} (hB : 0 < B) : ∀ (n : Nat) (d : Nat → Nat), (∀ i, i < n → d i < B) → ∃ k, k < B ^ n ∧ ∀ i, i < n → digB B k i = d i
  | 0, _, _ => ⟨0, by simp, fun i hi => by omega⟩
  | n + 1, d, h => by
    obtain ⟨k, h1, h2⟩ := digits hB n (fun i => d (i + 1)) (fun i hi => h (i + 1) (by omega))
    have hd := h 0 (by omega)
    refine ⟨d 0 + B * k, ?_, fun i hi => ?_⟩
    · have : B * k + B ≤ B * B ^ n := by rw [← Nat.mul_succ]; exact Nat.mul_le_mul_left B h1
      rw [Nat.pow_succ, Nat.mul_comm (B ^ n)]; omega
    · cases i with
      | zero => simp only [digB, Nat.pow_zero, Nat.div_one, Nat.add_mul_mod_self_left]; exact Nat.mod_eq_of_lt hd
      | succ i =>
        have := h2 i (by omega)
        simp only [digB] at this ⊢
        rw [Nat.pow_succ, Nat.mul_comm (B ^ i), ← Nat.div_div_eq_div_mul, Nat.add_mul_div_left _ _ hB, Nat.div_eq_of_lt hd, Nat.zero_add]
        exact this
theorem code_nested {A : Nat → Nat → Bool} {n K : Nat} (hA : NestedA A n K) : ∃ k, k < (K + 1) ^ n ∧ ∀ s, s < K → ∀ i, i < n → codeA K k s i = A s i := by
  have hcount : ∀ i, i < n → ∃ d, d ≤ K ∧ ∀ s, s < K → (A s i = true ↔ K ≤ s + d) := fun i hi => by
    have key : ∀ m, m ≤ K → ∃ d, d ≤ m ∧ ∀ s, s < K → K ≤ s + m → (A s i = true ↔ K ≤ s + d) := by
      intro m
      induction m with
      | zero => intro _; exact ⟨0, Nat.le_refl _, fun s h1 h2 => by omega⟩
      | succ m ih =>
        intro hm
        obtain ⟨d, h1, h2⟩ := ih (by omega)
        by_cases e : A (K - (m + 1)) i = true
        · have hall : ∀ j s, s = K - (m + 1) + j → s < K → A s i = true := by
            intro j
            induction j with
            | zero => intro s hs _; rw [hs]; exact e
            | succ j ihj =>
              intro s hs hsK
              have := ihj (s - 1) (by omega) (by omega)
              have := hA (s - 1) (by omega) i hi this
              rwa [show s - 1 + 1 = s by omega] at this
          exact ⟨m + 1, Nat.le_refl _, fun s hs1 hs2 => ⟨fun _ => hs2, fun _ => hall (s - (K - (m + 1))) s (by omega) hs1⟩⟩
        · refine ⟨d, by omega, fun s hs1 hs2 => ?_⟩
          by_cases e2 : s = K - (m + 1)
          · subst e2
            exact ⟨fun h => absurd h e, fun h => by omega⟩
          · exact h2 s hs1 (by omega)
    obtain ⟨d, h1, h2⟩ := key K (Nat.le_refl _)
    exact ⟨d, h1, fun s hs => h2 s hs (by omega)⟩
  let d : Nat → Nat := fun i => if h : i < n then Classical.choose (hcount i h) else 0
  obtain ⟨k, h1, h2⟩ := digits (B := K + 1) (by omega) n d (fun i hi => by
    have := (Classical.choose_spec (hcount i hi)).1
    simp only [d, dif_pos hi]; omega)
  refine ⟨k, h1, fun s hs i hi => ?_⟩
  have h3 := (Classical.choose_spec (hcount i hi)).2 s hs
  have h4 := h2 i hi
  simp only [d, dif_pos hi] at h4
  rw [codeA, h4, Bool.eq_iff_iff, decide_eq_true_eq]
  exact h3.symm
theorem iquo_nat {a b : Nat} (ha : a < 4611686018427387904) : iquo .i64 (a : Int) (b : Int) = ((a / b : Nat) : Int) := by
  have h : (a : Int).tdiv (b : Int) = ((a / b : Nat) : Int) := (Int.ofNat_tdiv a b).symm
  have h2 : a / b ≤ a := Nat.div_le_self a b
  unfold iquo
  rw [h]
  generalize a / b = q at h2
  exact wrap_in (by omega) (by omega)
theorem irem_nat (a b : Nat) : irem (a : Int) (b : Int) = ((a % b : Nat) : Int) := (Int.ofNat_tmod a b).symm
theorem impl_power_eq {N a n : Nat} (ha : a ≤ 4) (hn : n ≤ 6) (hN : 4194304 ≤ N) : Q24 N (a : Nat) (n : Nat) = some (((a ^ n : Nat) : Int), ()) := by
  have hp : ∀ i, i ≤ n → a ^ i ≤ 4096 := fun i hi => Nat.le_trans (Nat.pow_le_pow_left ha i) (Nat.le_trans (Nat.pow_le_pow_right (by omega) (show i ≤ 6 by omega)) (by decide))
  refine Q24_L1_run N (fun _ => (a : Int)) (fun i => ((a ^ i : Nat) : Int)) (fun _ => (n : Int)) (fun i => (i : Int)) n (fun i hi kx => ?_) (fun kx => ?_) N (by omega)
  · have h1 := hp i (by omega)
    have h2 := hp (i + 1) (by omega)
    have e : ((a ^ i : Nat) : Int) * (a : Nat) = ((a ^ (i + 1) : Nat) : Int) := by rw [Nat.pow_succ]; exact (Int.natCast_mul _ _).symm
    simp only [Q24_B1, ilt_eq, Int.ofNat_lt, hi, decide_true, cond_true, iadd_nat (show i < 4611686018427387904 by omega)]
    rw [imul_in (by rw [e]; omega) (by rw [e]; omega), e]
  · simp only [Q24_B1, Q24_K1, ilt_eq, Int.lt_irrefl, decide_false, cond_false]
def sumD (B k : Nat) : Nat → Nat
  | 0 => 0
  | i + 1 => sumD B k i + digB B k i
def perR (K k i st : Nat) : Pl := (List.range K).map fun s => pns (codeA K k s) i ++ (if codeA K k s i = true ∧ s < st then [(i : Int)] else [])
theorem dig_le (K k i : Nat) : digB (K + 1) k i ≤ K := by have := Nat.mod_lt (k / (K + 1) ^ i) (show 0 < K + 1 by omega); unfold digB; omega
theorem perR_len (K k i st : Nat) : (perR K k i st).length = K := map_range_len _ _
theorem perR_gd (K k i st : Nat) {s : Nat} (h : s < K) : gd (perR K k i st) s [] = pns (codeA K k s) i ++ (if codeA K k s i = true ∧ s < st then [(i : Int)] else []) := gd_map_range _ [] h
theorem gdl_ext {xs ys : Pl} (hl : xs.length = ys.length) (h : ∀ i, i < xs.length → gd xs i [] = gd ys i []) : xs = ys := by
  apply List.ext_getElem hl
  intro i h1 h2
  have := h i h1
  simpa [gd, List.getD_eq_getElem?_getD, List.getElem?_eq_getElem h1, List.getElem?_eq_getElem h2] using this
theorem gdl_set {xs : Pl} {i j : Nat} {v : List Int} (hi : i < xs.length) : gd (List.set xs i v) j [] = if j = i then v else gd xs j [] := by
  by_cases e : j = i
  · subst e; rw [if_pos rfl]; simp [gd, List.getD_eq_getElem?_getD, hi]
  · rw [if_neg e]; simp [gd, List.getD_eq_getElem?_getD, List.getElem?_set_ne (Ne.symm e)]
theorem perR_zero (K k i : Nat) : perR K k i (K - digB (K + 1) k i) = famL (codeA K k) K i := gdl_ext (by rw [perR_len, famL_len]) fun s hs => by
  rw [perR_len] at hs
  have := dig_le K k i
  rw [perR_gd _ _ _ _ hs, famL_gd _ _ _ hs, if_neg (fun h => by have := h.1; simp only [codeA, decide_eq_true_eq] at this; omega), List.append_nil]
theorem perR_all (K k i : Nat) : perR K k i K = famL (codeA K k) K (i + 1) := gdl_ext (by rw [perR_len, famL_len]) fun s hs => by
  rw [perR_len] at hs
  rw [perR_gd _ _ _ _ hs, famL_gd _ _ _ hs, pns_succ]
  congr 1
  by_cases e : codeA K k s i = true
  · rw [if_pos ⟨e, hs⟩, if_pos e]
  · rw [if_neg (fun h => e h.1), if_neg e]
theorem perR_step {K k i st : Nat} (h1 : K ≤ st + digB (K + 1) k i) (h2 : st < K) : List.set (perR K k i st) st (gd (perR K k i st) st [] ++ [(i : Int)]) = perR K k i (st + 1) := gdl_ext (by simp [perR_len]) fun s hs => by
  simp only [List.length_set, perR_len] at hs
  have hc : codeA K k st i = true := by simp only [codeA, decide_eq_true_eq]; exact h1
  rw [gdl_set (by rw [perR_len]; exact h2)]
  by_cases e : s = st
  · subst e
    rw [if_pos rfl, perR_gd _ _ _ _ h2, perR_gd _ _ _ _ h2, if_neg (fun h => by omega), if_pos ⟨hc, by omega⟩, List.append_nil]
  · rw [if_neg e, perR_gd _ _ _ _ hs, perR_gd _ _ _ _ hs]
    congr 1
    by_cases q : codeA K k s i = true ∧ s < st
    · rw [if_pos q, if_pos ⟨q.1, by omega⟩]
    · rw [if_neg q, if_neg (fun h => q ⟨h.1, by omega⟩)]
theorem bn_stages {N K k i : Nat} (hK : K ≤ 3) (hi : i ≤ 6) (hN : 4194304 ≤ N) (kx1 : Int → Int → Int → Int → Int → Int → Int → Int → Int → Int → Ch → Pl → Pl → Option ((Pl × Int) × Unit)) (n least length code sum ii v28 v29 v34 v35 : Int) (hii : ii = (i : Nat)) (c : Ch) (best : Pl) :
    Q11_L1 N N kx1 n (K : Nat) least length code sum ii ((digB (K + 1) k i : Nat) : Int) ((K - digB (K + 1) k i : Nat) : Int) v28 v29 v34 v35 c best (famL (codeA K k) K i) =
      kx1 n (K : Nat) least length code (iadd .i64 sum ((digB (K + 1) k i : Nat) : Int)) v28 v29 v34 (iadd .i64 v35 1) c best (famL (codeA K k) K (i + 1)) := by
  subst hii
  have hd := dig_le K k i
  have hlen : ∀ s st, s < K → (gd (perR K k i st) s []).length ≤ 7 := fun s st hs => by
    rw [perR_gd _ _ _ _ hs, List.length_append]
    have := cnt_le (codeA K k s) i
    unfold cnt at this
    split <;> simp <;> omega
  have key := Q11_L1_run N kx1 (fun _ => n) (fun _ => (K : Int)) (fun _ => least) (fun _ => length) (fun _ => code) (fun _ => sum) (fun _ => (i : Int)) (fun _ => ((digB (K + 1) k i : Nat) : Int)) (fun j => ((K - digB (K + 1) k i + j : Nat) : Int)) (fun _ => v28) (fun _ => v29) (fun _ => v34) (fun _ => v35) (fun _ => c) (fun _ => best) (fun j => perR K k i (K - digB (K + 1) k i + j)) (digB (K + 1) k i)
    (res_ := kx1 n (K : Nat) least length code (iadd .i64 sum ((digB (K + 1) k i : Nat) : Int)) v28 v29 v34 (iadd .i64 v35 1) c best (famL (codeA K k) K (i + 1))) (fun j hj kx2 => by
      have hlt : K - digB (K + 1) k i + j < K := by omega
      have h7 := hlen _ (K - digB (K + 1) k i + j) hlt
      have hn : natEq (K - digB (K + 1) k i + j) (K - digB (K + 1) k i + j) = true := by simp [natEq]
      simp only [Q11_B1, ilt_eq, Int.ofNat_lt, hlt, decide_true, cond_true, inB_true (show K - digB (K + 1) k i + j < (perR K k i (K - digB (K + 1) k i + j)).length by rw [perR_len]; exact hlt), chk_true', Int.toNat_natCast, chk_of (fitB_in (n := (gd (perR K k i (K - digB (K + 1) k i + j)) (K - digB (K + 1) k i + j) []).length + 1) (b := 8) (by omega) (by omega)), hn, iadd_nat (show K - digB (K + 1) k i + j < 4611686018427387904 by omega)]
      rw [perR_step (by omega) hlt]; rfl)
    (fun kx2 => by
      rw [show K - digB (K + 1) k i + digB (K + 1) k i = K by omega]
      simp only [Q11_B1, Q11_K1, ilt_eq, Int.lt_irrefl, decide_false, cond_false, perR_all]) N (by omega)
  simp only [Nat.add_zero, perR_zero] at key
  exact key
theorem sumD_le (K k : Nat) : ∀ i, sumD (K + 1) k i ≤ K * i
  | 0 => Nat.zero_le _
  | i + 1 => by have := sumD_le K k i; have := dig_le K k i; simp only [sumD, Nat.mul_succ]; omega
theorem bn_periods {N : Nat} {c : Ch} (hc : ChainP c) {k : Nat} (hk : k < 4096) (hN : 4194304 ≤ N) (kx : Int → Int → Int → Int → Int → Int → Ch → Pl → Option ((Pl × Int) × Unit)) (least length v28 v29 : Int) (best : Pl) :
    Q11_L2 N N kx (c.1.length : Int) (c.2.1.length : Int) least length (k : Nat) 0 v28 v29 (c.1.length : Int) 0 c best (famL (codeA c.2.1.length k) c.2.1.length 0) =
      Q11_K3 N kx (c.1.length : Int) (c.2.1.length : Int) least length ((sumD (c.2.1.length + 1) k c.1.length : Nat) : Int) v28 v29 c best (famL (codeA c.2.1.length k) c.2.1.length c.1.length) := by
  have hn := hc.n
  have h3 := hc.s3
  refine Q11_L2_run N kx (fun _ => (c.1.length : Int)) (fun _ => (c.2.1.length : Int)) (fun _ => least) (fun _ => length) (fun _ => ((k : Nat) : Int)) (fun i => ((sumD (c.2.1.length + 1) k i : Nat) : Int)) (fun _ => v28) (fun _ => v29) (fun _ => (c.1.length : Int)) (fun i => (i : Int)) (fun _ => c) (fun _ => best) (fun i => famL (codeA c.2.1.length k) c.2.1.length i) c.1.length (fun i hi kx1 => ?_) (fun kx1 => ?_) N (by omega)
  · have hp : 0 < (c.2.1.length + 1) ^ i := Nat.pow_pos (by omega)
    have hd := dig_le c.2.1.length k i
    have hsd := sumD_le c.2.1.length k i
    have hsd2 : c.2.1.length * i ≤ 3 * 6 := Nat.mul_le_mul h3 (by omega)
    have e1 : iadd .i64 ((c.2.1.length : Nat) : Int) 1 = ((c.2.1.length + 1 : Nat) : Int) := iadd_nat (by omega)
    have e2 : irem (iquo .i64 ((k : Nat) : Int) (((c.2.1.length + 1) ^ i : Nat) : Int)) ((c.2.1.length + 1 : Nat) : Int) = ((digB (c.2.1.length + 1) k i : Nat) : Int) := by
      rw [iquo_nat (by omega), irem_nat]; rfl
    have e3 : isub .i64 ((c.2.1.length : Nat) : Int) ((digB (c.2.1.length + 1) k i : Nat) : Int) = ((c.2.1.length - digB (c.2.1.length + 1) k i : Nat) : Int) := by rw [isub_in (by omega) (by omega)]; omega
    simp only [Q11_B2, ilt_eq, Int.ofNat_lt, hi, decide_true, cond_true, e1, impl_power_eq (show c.2.1.length + 1 ≤ 4 by omega) (show i ≤ 6 by omega) hN, Option.bind_some, ine_eq]
    rw [show decide ((((c.2.1.length + 1) ^ i : Nat) : Int) = 0) = false from decide_eq_false (by omega), show decide (((c.2.1.length + 1 : Nat) : Int) = 0) = false from decide_eq_false (by omega)]
    simp only [Bool.not_false, chk_true', e2, e3]
    rw [bn_stages h3 (by omega) hN kx1 _ _ _ _ _ _ _ _ _ _ rfl]
    rw [iadd_in (a := ((sumD (c.2.1.length + 1) k i : Nat) : Int)) (by omega) (by omega), iadd_nat (show i < 4611686018427387904 by omega)]
    rfl
  · simp only [Q11_B2, ilt_eq, Int.lt_irrefl, decide_false, cond_false]
def famK (c : Ch) (k : Nat) : Pl := famL (codeA c.2.1.length k) c.2.1.length c.1.length
def cstK (c : Ch) (k : Nat) : Int := nestCost c (codeA c.2.1.length k)
def smK (c : Ch) (k : Nat) : Nat := sumD (c.2.1.length + 1) k c.1.length
def covK (c : Ch) (k : Nat) : Bool := covAll c (codeA c.2.1.length k)
def betterB (cx cy : Int) (mx my : Nat) (x y : Pl) : Bool := decide (cx < cy) || (decide (cx = cy) && (decide (mx < my) || (decide (mx = my) && decide (cmpLL x y < 0))))
def bestNo (c : Ch) : Nat → Option Nat
  | 0 => none
  | k + 1 => if covK c k then (match bestNo c k with
    | none => some k
    | some j => if betterB (cstK c k) (cstK c j) (smK c k) (smK c j) (famK c k) (famK c j) then some k else some j) else bestNo c k
theorem nestPlan_ch {c : Ch} (hc : ChainP c) (hcb : chainB c = true) {A : Nat → Nat → Bool} (hA : NestedA A c.1.length c.2.1.length) (hcov : ∀ s, s < c.2.1.length → covS (A s) c.1 = true) : ChPl c (nestPlan c A) := chPl (by rw [hcb, nest_ok hc hA hcov]; rfl)
theorem nestCost_bd {c : Ch} (hc : ChainP c) (hcb : chainB c = true) {A : Nat → Nat → Bool} (hA : NestedA A c.1.length c.2.1.length) (hcov : ∀ s, s < c.2.1.length → covS (A s) c.1 = true) : 0 ≤ nestCost c A ∧ nestCost c A ≤ 118422 := by
  have h := totC_bd (nestPlan_ch hc hcb hA hcov) (Nat.le_refl _)
  have h3 := hc.s3
  have e : rsum (fun s => rsum (cellC c (nestPlan c A) s) c.1.length) (nestPlan c A).length = nestCost c A := nest_cost c A
  rw [e, nestPlan_len] at h
  omega
theorem nestPlan_sm {c : Ch} (hc : ChainP c) (A : Nat → Nat → Bool) : SmPl (nestPlan c A) := ⟨by rw [nestPlan_len]; have := hc.s3; omega, fun s hs => by
  rw [nestPlan_len] at hs
  rw [nestPlan_gd c A hs, planS_len]
  have := hc.n; omega⟩
def encP (c : Ch) : Option Nat → Pl | none => [] | some j => famK c j
def encC (c : Ch) : Option Nat → Int | none => 1099511627776 | some j => cstK c j
def encM (c : Ch) : Option Nat → Int | none => 0 | some j => ((smK c j : Nat) : Int)
theorem bn_step {N : Nat} {c : Ch} (hc : ChainP c) (hcb : chainB c = true) (hs : SmCh c) {k : Nat} (hk : k < 4096) (hN : 4194304 ≤ N) (kx : Int → Int → Int → Int → Int → Int → Ch → Pl → Option ((Pl × Int) × Unit)) (v28 : Int) :
    Q11_K3 N kx (c.1.length : Int) (c.2.1.length : Int) (encC c (bestNo c k)) (encM c (bestNo c k)) ((smK c k : Nat) : Int) v28 (k : Nat) c (encP c (bestNo c k)) (famK c k) =
      kx (c.1.length : Int) (c.2.1.length : Int) (encC c (bestNo c (k + 1))) (encM c (bestNo c (k + 1))) v28 ((k + 1 : Nat) : Int) c (encP c (bestNo c (k + 1))) := by
  have hn := hc.n
  have h3 := hc.s3
  have hne := impl_Chain_nested_eq (N := N) hc (codeA c.2.1.length k) hN
  have hA := codeA_nested c.2.1.length k c.1.length
  have hsm : SmPl (famK c k) := famL_sm _ (by omega) (by omega)
  simp only [Q11_K3, bestNo]
  rw [show Q14 N c (famK c k) = _ from hne]
  simp only [Option.bind_some, covK, bif_not, iadd_nat (show k < 4611686018427387904 by omega)]
  by_cases hcv : covAll c (codeA c.2.1.length k) = true
  case neg =>
    have hcv' : covAll c (codeA c.2.1.length k) = false := by simpa using hcv
    simp only [hcv', cond_false, Bool.false_eq_true, if_false]
  case pos =>
    have hcov := covAll_iff.1 hcv
    have hcost : Q13 N c (nestPlan c (codeA c.2.1.length k)) = some (cstK c k, ()) := by
      rw [impl_Chain_cost_eq (nest_ok hc hA hcov) (nestPlan_ch hc hcb hA hcov) hs (nestPlan_sm hc _) hN, nest_cost]; rfl
    have hbd : 0 ≤ cstK c k ∧ cstK c k ≤ 118422 := nestCost_bd hc hcb hA hcov
    have hcmp : ∀ y, Q37 N (famK c k) y = some (cmpLL (famK c k) y, ()) := fun y => CompareFunc_eq hsm hN
    simp only [hcv, cond_true, hcost, Option.bind_some, hcmp, ilt_eq, ieq_eq, Q11_K2, iadd_nat (show k < 4611686018427387904 by omega), if_true]
    cases hb : bestNo c k with
    | none =>
      simp only [encC, encM, encP, show cstK c k < 1099511627776 by omega, decide_true, cond_true]
      by_cases q1 : ((smK c k : Nat) : Int) < 0
      · omega
      · simp only [q1, decide_false, cond_false]
        by_cases q2 : ((smK c k : Nat) : Int) = 0 <;> simp [q2]
    | some j =>
      simp only [encC, encM, encP, betterB, Int.ofNat_lt]
      simp only [Int.natCast_inj]
      by_cases q1 : cstK c k < cstK c j
      · by_cases q2 : smK c k < smK c j
        · simp [q1, q2]
        · by_cases q3 : smK c k = smK c j <;> simp [q1, q2, q3]
      · by_cases q0 : cstK c k = cstK c j
        · by_cases q2 : smK c k < smK c j
          · simp [eq_false q1, eq_true q0, q2]
          · by_cases q3 : smK c k = smK c j
            · by_cases q4 : cmpLL (famK c k) (famK c j) < 0 <;> simp [eq_false q1, eq_true q0, eq_false q2, eq_true q3, q4]
            · simp [eq_false q1, eq_true q0, eq_false q2, eq_false q3]
        · by_cases q2 : smK c k < smK c j
          · simp [eq_false q1, eq_false q0, q2]
          · by_cases q3 : smK c k = smK c j
            · simp [eq_false q1, eq_false q0, eq_false q2, eq_true q3]
            · simp [eq_false q1, eq_false q0, eq_false q2, eq_false q3]
noncomputable def allNo (c : Ch) : Nat := (c.2.1.length + 1) ^ c.1.length
theorem allNo_le {c : Ch} (hc : ChainP c) : allNo c ≤ 4096 := by
  have h3 := hc.s3
  exact Nat.le_trans (Nat.pow_le_pow_left (show c.2.1.length + 1 ≤ 4 by omega) _) (Nat.le_trans (Nat.pow_le_pow_right (by omega) hc.n) (by decide))
theorem impl_bestNested_eq {N : Nat} {c : Ch} (hc : ChainP c) (hcb : chainB c = true) (hs : SmCh c) (hN : 4194304 ≤ N) : Q11 N c = some ((encP c (bestNo c (allNo c)), encC c (bestNo c (allNo c))), ()) := by
  have hn := hc.n
  have h3 := hc.s3
  have hal := allNo_le hc
  have e1 : iadd .i64 ((c.2.1.length : Nat) : Int) 1 = ((c.2.1.length + 1 : Nat) : Int) := iadd_nat (by omega)
  simp only [Q11, len_eq, e1, impl_power_eq (show c.2.1.length + 1 ≤ 4 by omega) hn hN, Option.bind_some]
  refine Q11_L3_run N (fun _ => (c.1.length : Int)) (fun _ => (c.2.1.length : Int)) (fun k => encC c (bestNo c k)) (fun k => encM c (bestNo c k)) (fun _ => ((allNo c : Nat) : Int)) (fun k => (k : Int)) (fun _ => c) (fun k => encP c (bestNo c k)) (allNo c) (fun k hk kx => ?_) (fun kx => ?_) N (by omega)
  · have e2 : List.replicate c.2.1.length ([] : List Int) = famL (codeA c.2.1.length k) c.2.1.length 0 := gdl_ext (by simp [famL_len]) fun s hs' => by
      simp only [List.length_replicate] at hs'
      rw [famL_gd _ _ _ hs']
      simp [gd, List.getD_eq_getElem?_getD, hs', pns]
    simp only [Q11_B3, ilt_eq, Int.ofNat_lt, hk, decide_true, cond_true, chk_of (mkB_in (n := c.2.1.length) (b := 24) (by omega) (by omega)), Int.toNat_natCast, e2]
    rw [bn_periods hc (by omega) hN]
    exact bn_step hc hcb hs (by omega) hN kx _
  · simp only [Q11_B3, Q11_K4, ilt_eq, Int.lt_irrefl, decide_false, cond_false]
theorem betterB_iff {cx cy : Int} {mx my : Nat} {x y : Pl} : betterB cx cy mx my x y = true ↔ cx < cy ∨ cx = cy ∧ (mx < my ∨ mx = my ∧ cmpLL x y < 0) := by
  simp only [betterB, Bool.or_eq_true, Bool.and_eq_true, decide_eq_true_eq]
theorem betterB_trans {cx cy cz : Int} {mx my mz : Nat} {x y z : Pl} (h1 : betterB cx cy mx my x y = true) (h2 : betterB cy cz my mz y z = true) : betterB cx cz mx mz x z = true := by
  rw [betterB_iff] at *
  rcases h1 with a | ⟨a, b⟩
  · rcases h2 with d | ⟨d, _⟩
    · left; omega
    · left; omega
  · rcases h2 with d | ⟨d, e⟩
    · left; omega
    · right
      refine ⟨a.trans d, ?_⟩
      rcases b with b | ⟨b, b2⟩
      · rcases e with e | ⟨e, _⟩
        · left; omega
        · left; omega
      · rcases e with e | ⟨e, e2⟩
        · left; omega
        · exact .inr ⟨b.trans e, cmpLL_ok.trans x y z b2 e2⟩
theorem better_one {cx cy : Int} {mx my : Nat} {x y : Pl} (h1 : betterB cx cy mx my x y = false) (h2 : betterB cy cx my mx y x = false) : x = y := by
  have k1 : ¬ _ := fun h => Bool.eq_false_iff.1 h1 (betterB_iff.2 h)
  have k2 : ¬ _ := fun h => Bool.eq_false_iff.1 h2 (betterB_iff.2 h)
  refine cmpLL_ok.eq x y ?_
  have h3 := cmpLL_ok.anti x y
  have hc : cx = cy := by
    rcases Int.lt_trichotomy cx cy with e | e | e
    · exact absurd (.inl e) k1
    · exact e
    · exact absurd (.inl e) k2
  have hm : mx = my := by
    rcases Nat.lt_trichotomy mx my with e | e | e
    · exact absurd (.inr ⟨hc, .inl e⟩) k1
    · exact e
    · exact absurd (.inr ⟨hc.symm, .inl e⟩) k2
  have q1 : ¬ cmpLL x y < 0 := fun e => k1 (.inr ⟨hc, .inr ⟨hm, e⟩⟩)
  have q2 : ¬ cmpLL y x < 0 := fun e => k2 (.inr ⟨hc.symm, .inr ⟨hm.symm, e⟩⟩)
  omega
theorem better_self {cx : Int} {mx : Nat} {x : Pl} : betterB cx cx mx mx x x = false := by
  cases h : betterB cx cx mx mx x x with
  | false => rfl
  | true =>
    rw [betterB_iff] at h
    rcases h with h | ⟨_, h | ⟨_, h⟩⟩
    · omega
    · omega
    · rw [cmpLL_ok.self] at h; omega
theorem bestNo_is (c : Ch) : ∀ k, (bestNo c k = none ∧ ∀ j, j < k → covK c j = false) ∨ (∃ j, j < k ∧ bestNo c k = some j ∧ covK c j = true ∧ ∀ i, i < k → covK c i = true → betterB (cstK c i) (cstK c j) (smK c i) (smK c j) (famK c i) (famK c j) = false)
  | 0 => .inl ⟨rfl, fun j h => by omega⟩
  | k + 1 => by
    have ih := bestNo_is c k
    simp only [bestNo]
    by_cases hk : covK c k = true
    · rw [if_pos hk]
      rcases ih with ⟨h1, h2⟩ | ⟨j, h1, h2, h3, h4⟩
      · rw [h1]
        refine .inr ⟨k, by omega, rfl, hk, fun i hi hc => ?_⟩
        by_cases e : i = k
        · rw [e]; exact better_self
        · rw [h2 i (by omega)] at hc; cases hc
      · rw [h2]
        simp only
        by_cases hb : betterB (cstK c k) (cstK c j) (smK c k) (smK c j) (famK c k) (famK c j) = true
        · rw [if_pos hb]
          refine .inr ⟨k, by omega, rfl, hk, fun i hi hc => ?_⟩
          by_cases e : i = k
          · rw [e]; exact better_self
          · cases hq : betterB (cstK c i) (cstK c k) (smK c i) (smK c k) (famK c i) (famK c k) with
            | false => rfl
            | true =>
              have := betterB_trans hq hb
              rw [h4 i (by omega) hc] at this; cases this
        · rw [if_neg hb]
          refine .inr ⟨j, by omega, rfl, h3, fun i hi hc => ?_⟩
          by_cases e : i = k
          · rw [e]; simpa using hb
          · exact h4 i (by omega) hc
    · rw [if_neg hk]
      rcases ih with ⟨h1, h2⟩ | ⟨j, h1, h2, h3, h4⟩
      · refine .inl ⟨h1, fun j hj => ?_⟩
        by_cases e : j = k
        · rw [e]; simpa using hk
        · exact h2 j (by omega)
      · refine .inr ⟨j, by omega, h2, h3, fun i hi hc => ?_⟩
        by_cases e : i = k
        · rw [e] at hc; exact absurd hc hk
        · exact h4 i (by omega) hc
theorem nestCost_ext {c : Ch} {A B : Nat → Nat → Bool} (h : ∀ s, s < c.2.1.length → ∀ i, i < c.1.length → A s i = B s i) : nestCost c A = nestCost c B ∧ covAll c A = covAll c B ∧ famL A c.2.1.length c.1.length = famL B c.2.1.length c.1.length := by
  refine ⟨rsum_congr fun s hs => by rw [planS_ext (h s hs)], ?_, ?_⟩
  · rw [Bool.eq_iff_iff, covAll_iff, covAll_iff]
    exact ⟨fun g s hs => by rw [← covS_ext (h s hs)]; exact g s hs, fun g s hs => by rw [covS_ext (h s hs)]; exact g s hs⟩
  · exact gdl_ext (by rw [famL_len, famL_len]) fun s hs => by
      rw [famL_len] at hs
      rw [famL_gd _ _ _ hs, famL_gd _ _ _ hs, pns_ext (h s hs)]
theorem bestNo_end {c : Ch} (hc : ChainP c) : ∃ j, j < allNo c ∧ bestNo c (allNo c) = some j ∧ covK c j = true ∧ cstK c j = outV c 0 ∧ ∀ i, i < allNo c → covK c i = true → betterB (cstK c i) (cstK c j) (smK c i) (smK c j) (famK c i) (famK c j) = false := by
  obtain ⟨A, a1, a2, a3⟩ := out_ge hc
  obtain ⟨k, k1, k2⟩ := code_nested a1
  obtain ⟨e1, e2, _⟩ := nestCost_ext (c := c) k2
  have hcov : covK c k = true := by show covAll c (codeA c.2.1.length k) = true; rw [e2]; exact covAll_iff.2 a2
  rcases bestNo_is c (allNo c) with ⟨_, h2⟩ | ⟨j, h1, h2, h3, h4⟩
  · rw [h2 k k1] at hcov; cases hcov
  · refine ⟨j, h1, h2, h3, ?_, h4⟩
    have hle : outV c 0 ≤ cstK c j := outV_nest hc (codeA_nested _ _ _) (covAll_iff.1 h3)
    have hge : cstK c j ≤ cstK c k := by
      rcases Int.lt_or_le (cstK c k) (cstK c j) with e | e
      · have := h4 k k1 hcov
        rw [betterB_iff.2 (.inl e)] at this; cases this
      · exact e
    have : cstK c k = nestCost c A := e1
    omega
theorem impl_BestChainCost_eq {N : Nat} {c : Ch} (hs : SmCh c) (hN : 4194304 ≤ N) : Q3 N c = some (bestCh c, ()) := by
  simp only [Q3, impl_IsChain_eq hs hN, Option.bind_some, bif_not, bestCh]
  cases h : chainB c with
  | false => rfl
  | true =>
    obtain ⟨j, _, h2, _, h4, _⟩ := bestNo_end (chainP h)
    simp only [cond_true, impl_bestNested_eq (chainP h) h hs hN, Option.bind_some, h2, encC, h4]
theorem n7_fill {N : Nat} : ∀ d (k : Nat) (cu : Cu) (out : List Int), out.length + d = 8 → Bud cu (k + 2 * (d + 1)) → ∃ out' c', (∀ m, d < m → Q32_L1 N m cu out = some (out', c')) ∧ Bud c' k ∧ out'.length ≤ 8 := by
  intro d
  induction d with
  | zero =>
    intro k cu out hl h
    obtain ⟨v, c1, e1, b1, v0, v1⟩ := pick_ok (N := N) 2 (h.mono (show k + 2 ≤ k + 2 * (0 + 1) by omega))
    refine ⟨out, c1, fun m hm => ?_, b1, by omega⟩
    obtain ⟨m, rfl⟩ : ∃ q, m = q + 1 := ⟨m - 1, by omega⟩
    rw [Q32_L1_succ]
    have hv : iadd .i64 6 v = 6 + v := iadd_in (by omega) (by omega)
    simp only [Q32_B1, e1, Option.bind_some, ilt_eq, len_eq, hv, show ¬ (out.length : Int) < 6 + v by omega, decide_false, cond_false, Q32_K1]
  | succ d ih =>
    intro k cu out hl h
    obtain ⟨v, c1, e1, b1, v0, v1⟩ := pick_ok (N := N) 2 (h.mono (show k + 2 * (d + 1) + 2 ≤ k + 2 * (d + 1 + 1) by omega))
    have hv : iadd .i64 6 v = 6 + v := iadd_in (by omega) (by omega)
    by_cases hc : (out.length : Int) < 6 + v
    · obtain ⟨out', c', o1, o2, o3⟩ := ih k c1 (out ++ [1]) (by simp; omega) b1
      refine ⟨out', c', fun m hm => ?_, o2, o3⟩
      obtain ⟨m, rfl⟩ : ∃ q, m = q + 1 := ⟨m - 1, by omega⟩
      rw [Q32_L1_succ]
      simp only [Q32_B1, e1, Option.bind_some, ilt_eq, len_eq, hv, hc, decide_true, cond_true, chk_of (fitB_in (n := out.length + 1) (b := 8) (by omega) (by omega))]
      exact o1 m (by omega)
    · refine ⟨out, c1, fun m hm => ?_, b1.mono (by omega), by omega⟩
      obtain ⟨m, rfl⟩ : ∃ q, m = q + 1 := ⟨m - 1, by omega⟩
      rw [Q32_L1_succ]
      simp only [Q32_B1, e1, Option.bind_some, ilt_eq, len_eq, hv, hc, decide_false, cond_false, Q32_K1]
theorem n7_end {N : Nat} (hN : 4194304 ≤ N) {k : Nat} {cu : Cu} {out : List Int} (hl : out.length ≤ 5) (h : Bud cu (k + 22)) : ∃ out' c', Q32_K2 N cu out = some (out', c') ∧ Bud c' k ∧ out'.length ≤ 8 := by
  obtain ⟨v, c1, e1, b1, v0, v1⟩ := pick_ok (N := N) 40 (h.mono (show k + 20 + 2 ≤ k + 22 by omega))
  simp only [Q32_K2, e1, Option.bind_some, ieq_eq]
  by_cases q0 : v = 0
  · obtain ⟨r, c2, e2, b2, _⟩ := among_ok (N := N) (list := [(-1), 20, 21]) (-1) 21 (by decide) (by decide) (b1.mono (show k + 2 ≤ k + 20 by omega))
    refine ⟨out ++ [r], c2, ?_, b2, by simp; omega⟩
    simp only [q0, decide_true, cond_true, e2, Option.bind_some, chk_of (fitB_in (n := out.length + 1) (b := 8) (by omega) (by omega))]
  · by_cases q1 : v = 1
    · obtain ⟨out', c', o1, o2, o3⟩ := n7_fill (N := N) (8 - out.length) k c1 out (by omega) (b1.mono (by omega))
      refine ⟨out', c', ?_, o2, o3⟩
      simp only [q0, q1, decide_true, decide_false, cond_true, cond_false]
      rw [show decide ((1 : Int) = 0) = false from rfl]
      simp only [cond_false]
      exact o1 N (by omega)
    · refine ⟨out, c1, ?_, b1.mono (by omega), by omega⟩
      simp only [q0, q1, decide_false, cond_false]
theorem n7_loop {N : Nat} (hN : 4194304 ≤ N) : ∀ d (k : Nat) (cu : Cu) (out : List Int) (n : Int), n.toNat = d → 0 ≤ n → out.length + d ≤ 5 → Bud cu (k + 22 + 2 * d) → ∃ out' c', (∀ m, d < m → Q32_L2 N m n cu out = some (out', c')) ∧ Bud c' k ∧ out'.length ≤ 8 := by
  intro d
  induction d with
  | zero =>
    intro k cu out n hn h0 hl h
    obtain ⟨out', c', o1, o2, o3⟩ := n7_end hN (by omega) (h.mono (show k + 22 ≤ k + 22 + 2 * 0 by omega))
    refine ⟨out', c', fun m hm => ?_, o2, o3⟩
    obtain ⟨m, rfl⟩ : ∃ q, m = q + 1 := ⟨m - 1, by omega⟩
    rw [Q32_L2_succ]
    simp only [Q32_B2, ilt_eq, show ¬ (0 : Int) < n by omega, decide_false, cond_false, o1]
  | succ d ih =>
    intro k cu out n hn h0 hl h
    obtain ⟨r, c1, e1, b1, _⟩ := among_ok (N := N) (list := [1, 2, 0, 3, 5, 8]) 0 8 (by decide) (by decide) (h.mono (show k + 22 + 2 * d + 2 ≤ k + 22 + 2 * (d + 1) by omega))
    obtain ⟨out', c', o1, o2, o3⟩ := ih k c1 (out ++ [r]) (n - 1) (by omega) (by omega) (by simp; omega) b1
    refine ⟨out', c', fun m hm => ?_, o2, o3⟩
    obtain ⟨m, rfl⟩ : ∃ q, m = q + 1 := ⟨m - 1, by omega⟩
    rw [Q32_L2_succ]
    simp only [Q32_B2, ilt_eq, show (0 : Int) < n by omega, decide_true, cond_true, e1, Option.bind_some, chk_of (fitB_in (n := out.length + 1) (b := 8) (by omega) (by omega))]
    rw [isub_in (by omega) (by omega)]
    exact o1 m (by omega)
theorem needs7_ok {N : Nat} (hN : 4194304 ≤ N) {k : Nat} {cu : Cu} (h : Bud cu (k + 40)) : ∃ out c', Q32 N cu = some (out, c') ∧ Bud c' k ∧ out.length ≤ 8 := by
  obtain ⟨v, c1, e1, b1, v0, v1⟩ := among_ok (N := N) (list := [4, 3, 5, 2, 1, 0]) 0 5 (by decide) (by decide) (h.mono (show k + 36 + 2 ≤ k + 40 by omega))
  obtain ⟨out', c', o1, o2, o3⟩ := n7_loop hN v.toNat k c1 [] v rfl v0 (by simp; omega) (b1.mono (by omega))
  refine ⟨out', c', ?_, o2, o3⟩
  simp only [Q32, e1, Option.bind_some]
  exact o1 N (by omega)
structure ChLen (c : Ch) : Prop where
  l0 : c.1.length ≤ 8
  l1 : c.2.1.length ≤ 3
  l2 : c.2.2.length ≤ 4
theorem ChLen.sm {c : Ch} (h : ChLen c) : SmCh c := ⟨by have := h.l0; omega, by have := h.l1; omega, by have := h.l2; omega⟩
theorem chain_end {N : Nat} {k : Nat} {cu : Cu} {v : Ch} {out : Ch} {n : Nat} (hn : 1 ≤ n ∧ n ≤ 3) (h0 : out.1.length ≤ 8) (h1 : out.2.1.length = n) (h2 : out.2.2.length = n) (h : Bud cu (k + 4)) : ∃ out' c', Q31_K1 N cu v out = some (out', c') ∧ Bud c' k ∧ ChLen out' := by
  obtain ⟨r, c1, e1, b1, v0, v1⟩ := pick_ok (N := N) 48 (h.mono (show k + 2 + 2 ≤ k + 4 by omega))
  simp only [Q31_K1, e1, Option.bind_some, ieq_eq]
  by_cases q0 : r = 0
  · refine ⟨(out.1, (out.2.1, out.2.2 ++ [9])), c1, by simp only [q0, decide_true, cond_true, chk_of (fitB_in (n := out.2.2.length + 1) (b := 8) (by omega) (by omega))], b1.mono (by omega), ⟨h0, by simp only [h1]; omega, by simp [h2]; omega⟩⟩
  · by_cases q1 : r = 1
    · obtain ⟨x, c2, e2, b2, _⟩ := among_ok (N := N) (list := [(-1), 9, 10]) (-1) 10 (by decide) (by decide) b1
      refine ⟨(out.1, (out.2.1, List.set out.2.2 0 x)), c2, by simp only [q1, show decide ((1 : Int) = 0) = false from rfl, decide_true, cond_false, cond_true, e2, Option.bind_some, chk_of (inB_in (i := 0) (n := out.2.2.length) (by omega) (by omega))], b2, ⟨h0, by simp only [h1]; omega, by simp [h2]; omega⟩⟩
    · by_cases q2 : r = 2
      · obtain ⟨x, c2, e2, b2, _⟩ := among_ok (N := N) (list := [(-1), 99, 100]) (-1) 100 (by decide) (by decide) b1
        refine ⟨(out.1, (List.set out.2.1 0 x, out.2.2)), c2, by simp only [q2, show decide ((2 : Int) = 0) = false from rfl, show decide ((2 : Int) = 1) = false from rfl, decide_true, cond_false, cond_true, e2, Option.bind_some, chk_of (inB_in (i := 0) (n := out.2.1.length) (by omega) (by omega))], b2, ⟨h0, by simp [h1]; omega, by simp only [h2]; omega⟩⟩
      · by_cases q3 : r = 3
        · refine ⟨(out.1, ([], out.2.2)), c1, by simp only [q0, q1, q2, q3, decide_true, decide_false, cond_false, cond_true, show decide ((3 : Int) = 0) = false from rfl, show decide ((3 : Int) = 1) = false from rfl, show decide ((3 : Int) = 2) = false from rfl], b1.mono (by omega), ⟨h0, by simp, by simp only [h2]; omega⟩⟩
        · refine ⟨out, c1, by simp only [q0, q1, q2, q3, decide_false, cond_false], b1.mono (by omega), ⟨h0, by omega, by omega⟩⟩
theorem chain_loop {N : Nat} {n : Nat} (hn : 1 ≤ n ∧ n ≤ 3) : ∀ d i, i + d = n → ∀ (k : Nat) (cu : Cu) (hold r : Int) (v out : Ch), r = (d : Int) → out.1.length ≤ 8 → out.2.1.length = i → out.2.2.length = i → Bud cu (k + 4 + 4 * d) → ∃ out' c', (∀ m, d < m → Q31_L1 N m hold r cu v out = some (out', c')) ∧ Bud c' k ∧ ChLen out' := by
  intro d
  induction d with
  | zero =>
    intro i hi k cu hold r v out hr h0 h1 h2 h
    obtain ⟨out', c', o1, o2, o3⟩ := chain_end (N := N) (v := v) hn h0 (by omega) (by omega) (h.mono (show k + 4 ≤ k + 4 + 4 * 0 by omega))
    refine ⟨out', c', fun m hm => ?_, o2, o3⟩
    obtain ⟨m, rfl⟩ : ∃ q, m = q + 1 := ⟨m - 1, by omega⟩
    rw [Q31_L1_succ]
    simp only [Q31_B1, ilt_eq, show ¬ (0 : Int) < r by omega, decide_false, cond_false, o1]
  | succ d ih =>
    intro i hi k cu hold r v out hr h0 h1 h2 h
    obtain ⟨x, c1, e1, b1, _⟩ := among_ok (N := N) (list := [5, 8, 3, 12, 0, 20]) 0 20 (by decide) (by decide) (h.mono (show k + 4 + 4 * d + 2 + 2 ≤ k + 4 + 4 * (d + 1) by omega))
    obtain ⟨y, c2, e2, b2, _⟩ := among_ok (N := N) (list := [1, 0, 1, 2]) 0 2 (by decide) (by decide) b1
    obtain ⟨out', c', o1, o2, o3⟩ := ih (i + 1) (by omega) k c2 (iadd .i64 hold y) (d : Int) v (out.1, (out.2.1 ++ [x], out.2.2 ++ [iadd .i64 hold y])) rfl h0 (by simp [h1]) (by simp [h2]) b2
    refine ⟨out', c', fun m hm => ?_, o2, o3⟩
    obtain ⟨m, rfl⟩ : ∃ q, m = q + 1 := ⟨m - 1, by omega⟩
    rw [Q31_L1_succ]
    simp only [Q31_B1, ilt_eq, show (0 : Int) < r by omega, decide_true, cond_true, e1, e2, Option.bind_some, chk_of (fitB_in (n := out.2.1.length + 1) (b := 8) (by omega) (by omega)), chk_of (fitB_in (n := out.2.2.length + 1) (b := 8) (by omega) (by omega))]
    rw [show isub .i64 r 1 = (d : Int) by rw [isub_in (by omega) (by omega)]; omega]
    exact o1 m (by omega)
theorem chain_ok {N : Nat} (hN : 4194304 ≤ N) {k : Nat} {cu : Cu} (h : Bud cu (k + 70)) : ∃ out c', Q31 N cu = some (out, c') ∧ Bud c' k ∧ ChLen out := by
  obtain ⟨x, c1, e1, b1, l1⟩ := needs7_ok hN (h.mono (show k + 20 + 2 + 40 ≤ k + 70 by omega))
  obtain ⟨v, c2, e2, b2, v0, v1⟩ := among_ok (N := N) (list := [2, 3, 2, 1]) 1 3 (by decide) (by decide) b1
  obtain ⟨out', c', o1, o2, o3⟩ := chain_loop (N := N) (n := v.toNat) (by omega) v.toNat 0 (by omega) k c2 0 v ([], ([], [])) (x, ([], [])) (by omega) l1 rfl rfl (b2.mono (by omega))
  refine ⟨out', c', ?_, o2, o3⟩
  simp only [Q31, e1, e2, Option.bind_some]
  exact o1 N (by omega)
theorem evenC_sm {need : List Int} (a h : Int) (hn : need.length < 4194304) : SmC (evenC need a h) := ⟨hn, by simp [evenC]; exact hn, by simp [evenC]; exact hn, by simp [evenC]; exact hn⟩
theorem pns_rise {S : Nat → Bool} {n i : Nat} (hi : i < (pns S n).length) : 0 ≤ gd (pns S n) i 0 ∧ gd (pns S n) i 0 ≤ (n : Int) - 1 ∧ (0 < i → gd (pns S n) (i - 1) 0 < gd (pns S n) i 0) := by
  obtain ⟨p, h1, h2, h3, h4⟩ := pns_get hi
  refine ⟨by omega, by omega, fun h0 => ?_⟩
  obtain ⟨q, g1, g2, g3, g4⟩ := pns_get (show i - 1 < (pns S n).length by omega)
  rw [h4, g4]
  rcases Nat.lt_or_ge q p with e | e
  · omega
  · have := cnt_mono S e; omega
theorem spec_l1Rising_pns {N n : Nat} (S : Nat → Bool) (hn : n < 1000) (hN : 4194304 ≤ N) : Q52 N (pns S n) 0 ((n : Int) - 1) = some (true, ()) := by
  have hl : (pns S n).length ≤ n := cnt_le S n
  refine Q52_L1_run N (fun _ => pns S n) (fun _ => 0) (fun _ => (n : Int) - 1) (fun i => (i : Int)) (pns S n).length (fun i hi kx => ?_) (fun kx => ?_) N (by omega)
  · obtain ⟨h1, h2, h3⟩ := pns_rise hi
    have hr : inRg 0 ((n : Int) - 1) (gd (pns S n) i 0) = true := by simp only [inRg, Bool.and_eq_true, decide_eq_true_eq]; exact ⟨h1, h2⟩
    simp only [Q52_B1, ilt_eq, len_eq, Int.ofNat_lt, hi, decide_true, cond_true, inB_true hi, chk_true', Int.toNat_natCast, spec_l1In_eq, hr, Option.bind_some, Bool.not_true, cond_false, iadd_nat (show i < 4611686018427387904 by omega)]
    by_cases h0 : (0 : Int) < (i : Int)
    · obtain ⟨j, rfl⟩ : ∃ j, i = j + 1 := ⟨i - 1, by omega⟩
      have e : isub .i64 ((j + 1 : Nat) : Int) 1 = (j : Int) := by rw [isub_in (by omega) (by omega)]; omega
      have h4 := h3 (by omega)
      rw [Nat.add_sub_cancel] at h4
      simp only [h0, decide_true, cond_true, e, inB_true (show j < (pns S n).length by omega), chk_true', Int.toNat_natCast, ile_eq, show ¬ gd (pns S n) (j + 1) 0 ≤ gd (pns S n) j 0 by omega, decide_false, cond_false]
    · simp only [h0, decide_false, cond_false]
  · simp only [Q52_B1, Q52_K1, ilt_eq, len_eq, Int.lt_irrefl, decide_false, cond_false]
theorem spec_l1Has_eq {N : Nat} {xs : List Int} (v : Int) (hl : xs.length < 4194304) (hN : 4194304 ≤ N) : Q47 N xs v = some (decide (∃ i, i < xs.length ∧ gd xs i 0 = v), ()) := by
  have step : ∀ i, i < xs.length → gd xs i 0 ≠ v → ∀ kx, Q47_B1 N kx xs v (i : Nat) = kx xs v ((i + 1 : Nat) : Int) := fun i hi hne kx => by
    simp only [Q47_B1, ilt_eq, len_eq, Int.ofNat_lt, hi, decide_true, cond_true, inB_true hi, chk_true', Int.toNat_natCast, ieq_eq, hne, decide_false, cond_false, iadd_nat (show i < 4611686018427387904 by omega)]
  rcases first_cases (fun i => !decide (gd xs i 0 = v)) xs.length with h | ⟨j, hj, hb, hat⟩
  · have hno : ∀ i, i < xs.length → gd xs i 0 ≠ v := fun i hi => by simpa using h i hi
    rw [decide_eq_false (fun ⟨i, h1, h2⟩ => hno i h1 h2)]
    refine Q47_L1_run N (fun _ => xs) (fun _ => v) (fun i => (i : Int)) xs.length (fun i hi kx => step i hi (hno i hi) kx) (fun kx => ?_) N (by omega)
    simp only [Q47_B1, Q47_K1, ilt_eq, len_eq, Int.lt_irrefl, decide_false, cond_false]
  · have hat' : gd xs j 0 = v := by simpa using hat
    rw [decide_eq_true (⟨j, hj, hat'⟩ : ∃ i, i < xs.length ∧ gd xs i 0 = v)]
    refine Q47_L1_run N (fun _ => xs) (fun _ => v) (fun i => (i : Int)) j (fun i hi kx => step i (by omega) (by simpa using hb i hi) kx) (fun kx => ?_) N (by omega)
    simp only [Q47_B1, ilt_eq, len_eq, Int.ofNat_lt, hj, decide_true, cond_true, inB_true hj, chk_true', Int.toNat_natCast, ieq_eq, hat']
theorem has_pns {S : Nat → Bool} {n p : Nat} : (∃ i, i < (pns S n).length ∧ gd (pns S n) i 0 = (p : Int)) ↔ p < n ∧ S p = true := by
  constructor
  · rintro ⟨i, h1, h2⟩
    obtain ⟨q, g1, g2, _, g4⟩ := pns_get h1
    rw [g4] at h2
    have : q = p := by omega
    subst this; exact ⟨g1, g2⟩
  · rintro ⟨h1, h2⟩
    obtain ⟨g1, g2⟩ := pns_at h1 h2
    exact ⟨_, g1, g2⟩
def subS (S T : Nat → Bool) (n : Nat) : Bool := (List.range n).all fun p => !S p || T p
theorem subS_iff {S T : Nat → Bool} {n : Nat} : subS S T n = true ↔ ∀ p, p < n → S p = true → T p = true := by
  simp only [subS, List.all_eq_true, List.mem_range, Bool.or_eq_true, Bool.not_eq_true']
  constructor
  · intro h p hp hS; rcases h p hp with g | g
    · rw [hS] at g; cases g
    · exact g
  · intro h p hp
    cases hS : S p with
    | false => exact .inl rfl
    | true => exact .inr (h p hp hS)
theorem spec_l7Within_pns {N n : Nat} (S T : Nat → Bool) (hn : n < 1000) (hN : 4194304 ≤ N) : Q77 N (pns S n) (pns T n) = some (subS S T n, ()) := by
  have hl : (pns S n).length ≤ n := cnt_le S n
  have hl2 : (pns T n).length ≤ n := cnt_le T n
  have step : ∀ i, i < (pns S n).length → ∀ kx, Q77_B1 N kx (pns S n) (pns T n) (i : Nat) = bif decide (∃ q, q < (pns T n).length ∧ gd (pns T n) q 0 = gd (pns S n) i 0) then kx (pns S n) (pns T n) ((i + 1 : Nat) : Int) else some (false, ()) := fun i hi kx => by
    simp only [Q77_B1, ilt_eq, len_eq, Int.ofNat_lt, hi, decide_true, cond_true, inB_true hi, chk_true', Int.toNat_natCast, spec_l1Has_eq _ (show (pns T n).length < 4194304 by omega) hN, Option.bind_some, bif_not, iadd_nat (show i < 4611686018427387904 by omega)]
  rcases first_cases (fun i => decide (∃ q, q < (pns T n).length ∧ gd (pns T n) q 0 = gd (pns S n) i 0)) (pns S n).length with h | ⟨j, hj, hb, hat⟩
  · have hs : subS S T n = true := subS_iff.2 fun p hp hS => by
      obtain ⟨g1, g2⟩ := pns_at hp hS
      have := of_decide_eq_true (h _ g1)
      rw [g2] at this
      exact (has_pns.1 this).2
    rw [hs]
    refine Q77_L1_run N (fun _ => pns S n) (fun _ => pns T n) (fun i => (i : Int)) (pns S n).length (fun i hi kx => by rw [step i hi, h i hi]; rfl) (fun kx => ?_) N (by omega)
    simp only [Q77_B1, Q77_K1, ilt_eq, len_eq, Int.lt_irrefl, decide_false, cond_false]
  · have hs : subS S T n = false := by
      cases hq : subS S T n with
      | false => rfl
      | true =>
        obtain ⟨p, g1, g2, _, g4⟩ := pns_get hj
        have : ∃ q, q < (pns T n).length ∧ gd (pns T n) q 0 = gd (pns S n) j 0 := by rw [g4]; exact has_pns.2 ⟨g1, subS_iff.1 hq p g1 g2⟩
        rw [decide_eq_true this] at hat; cases hat
    rw [hs]
    exact Q77_L1_run N (fun _ => pns S n) (fun _ => pns T n) (fun i => (i : Int)) j (fun i hi kx => by rw [step i (by omega), hb i hi]; rfl) (fun kx => by rw [step j hj, hat]; rfl) N (by omega)
theorem spec_l7Periods_nested {N : Nat} {c : Ch} (hc : ChainP c) {A : Nat → Nat → Bool} (hA : NestedA A c.1.length c.2.1.length) (hN : 4194304 ≤ N) : Q73 N c (famL A c.2.1.length c.1.length) = some (true, ()) := by
  have hn := hc.n
  have h3 := hc.s3
  refine Q73_L1_run N (fun _ => famL A c.2.1.length c.1.length) (fun s => (s : Int)) (fun _ => c) c.2.1.length (fun s hs kx => ?_) (fun kx => ?_) N (by omega)
  · have hl : s < (famL A c.2.1.length c.1.length).length := by rw [famL_len]; exact hs
    have e1 : isub .i64 ((c.1.length : Nat) : Int) 1 = (c.1.length : Int) - 1 := isub_in (by omega) (by omega)
    simp only [Q73_B1, ilt_eq, len_eq, famL_len, Int.ofNat_lt, hs, decide_true, cond_true, inB_true hl, inB_true hs, chk_true', Int.toNat_natCast, famL_gd A _ _ hs, e1, spec_l1Rising_pns (A s) (show c.1.length < 1000 by omega) hN, Option.bind_some, Bool.not_true, cond_false, iadd_nat (show s < 4611686018427387904 by omega)]
    by_cases h0 : (0 : Int) < (s : Int)
    · obtain ⟨j, rfl⟩ : ∃ j, s = j + 1 := ⟨s - 1, by omega⟩
      have e : isub .i64 ((j + 1 : Nat) : Int) 1 = (j : Int) := by rw [isub_in (by omega) (by omega)]; omega
      have hw : subS (A j) (A (j + 1)) c.1.length = true := subS_iff.2 fun p hp h => hA j hs p hp h
      simp only [h0, decide_true, cond_true, e, inB_true (show j < c.2.1.length by omega), chk_true', Int.toNat_natCast, famL_gd A _ _ (show j < c.2.1.length by omega), spec_l7Within_pns (A j) (A (j + 1)) (show c.1.length < 1000 by omega) hN, Option.bind_some, hw, Bool.not_true, cond_false]
    · simp only [h0, decide_false, cond_false]
  · simp only [Q73_B1, Q73_K1, ilt_eq, len_eq, famL_len, Int.lt_irrefl, decide_false, cond_false, ieq_eq, decide_true]
theorem spec_NestedPlan_nested {N : Nat} {c : Ch} (hc : ChainP c) (hcb : chainB c = true) (hs : SmCh c) {A : Nat → Nat → Bool} (hA : NestedA A c.1.length c.2.1.length) (hN : 4194304 ≤ N) : Q45 N c (famL A c.2.1.length c.1.length) = some (bif covAll c A then (nestPlan c A, true) else ([], false), ()) := by
  have hn := hc.n
  have h3 := hc.s3
  have step : ∀ s, s < c.2.1.length → ∀ kx out, out.length < 1000 → Q45_B1 N kx (famL A c.2.1.length c.1.length) (s : Nat) c out = bif covS (A s) c.1 then kx (famL A c.2.1.length c.1.length) ((s + 1 : Nat) : Int) c (out ++ [planS (A s) c.1]) else some (([], false), ()) := fun s hs kx out ho => by
    simp only [Q45_B1, ilt_eq, len_eq, famL_len, Int.ofNat_lt, hs, decide_true, cond_true, inB_true hs, chk_true', Int.toNat_natCast, famL_gd A _ _ hs, spec_l7Fed_eq hc.b0 hn hN, Option.bind_some, bif_not, iadd_nat (show s < 4611686018427387904 by omega)]
    by_cases hcv : covS (A s) c.1 = true
    · simp only [hcv, cond_true, spec_l7Row_eq hc.b0 (by omega) hn hcv hN, Option.bind_some, chk_of (fitB_in (n := out.length + 1) (b := 24) (by omega) (by omega))]
    · have : covS (A s) c.1 = false := by simpa using hcv
      simp only [this, cond_false]
  simp only [Q45, spec_l7Good_eq hs hN, hcb, Option.bind_some, Bool.not_true, cond_false, spec_l7Periods_nested hc hA hN]
  rcases range_cases (fun s => covS (A s) c.1) c.2.1.length with ⟨h1, h2⟩ | ⟨h1, j, h2, h4, h5⟩
  · have h1' : covAll c A = true := h1
    rw [h1']
    refine Q45_L1_run N (fun _ => famL A c.2.1.length c.1.length) (fun s => (s : Int)) (fun _ => c) (fun s => (List.range s).map fun s => planS (A s) c.1) c.2.1.length (fun s hs kx => ?_) (fun kx => ?_) N (by omega)
    · rw [step s hs kx _ (by simp; omega), h2 s hs]; simp only [cond_true, range_take]
    · simp only [Q45_B1, Q45_K1, ilt_eq, len_eq, famL_len, Int.lt_irrefl, decide_false, cond_false, cond_true]; rfl
  · have h1' : covAll c A = false := h1
    rw [h1']
    refine Q45_L1_run N (fun _ => famL A c.2.1.length c.1.length) (fun s => (s : Int)) (fun _ => c) (fun s => (List.range s).map fun s => planS (A s) c.1) j (fun s hs kx => ?_) (fun kx => ?_) N (by omega)
    · rw [step s (by omega) kx _ (by simp; omega), h4 s hs]; simp only [cond_true, range_take]
    · rw [step j h2 kx _ (by simp; omega), h5]; rfl
def manyN (A : Nat → Nat → Bool) (n : Nat) : Nat → Nat
  | 0 => 0
  | s + 1 => manyN A n s + cnt (A s) n
theorem manyN_le (A : Nat → Nat → Bool) (n : Nat) : ∀ K, manyN A n K ≤ n * K
  | 0 => Nat.zero_le _
  | K + 1 => by have := manyN_le A n K; have := cnt_le (A K) n; simp only [manyN, Nat.mul_succ]; omega
theorem spec_l7Many_fam {N n K : Nat} (A : Nat → Nat → Bool) (hK : K ≤ 3) (hn : n ≤ 6) (hN : 4194304 ≤ N) : Q71 N (famL A K n) = some (((manyN A n K : Nat) : Int), ()) := by
  refine Q71_L1_run N (fun _ => famL A K n) (fun s => ((manyN A n s : Nat) : Int)) (fun s => (s : Int)) K (fun s hs kx => ?_) (fun kx => ?_) N (by omega)
  · have h1 := manyN_le A n s
    have h2 : n * s ≤ 6 * 3 := Nat.mul_le_mul hn (by omega)
    have h3 := cnt_le (A s) n
    have h4 : (pns (A s) n).length = cnt (A s) n := rfl
    simp only [Q71_B1, ilt_eq, len_eq, famL_len, Int.ofNat_lt, hs, decide_true, cond_true, inB_true hs, chk_true', Int.toNat_natCast, famL_gd A _ _ hs, iadd_nat (show s < 4611686018427387904 by omega), h4]
    rw [iadd_in (by omega) (by omega)]; rfl
  · simp only [Q71_B1, Q71_K1, ilt_eq, len_eq, famL_len, Int.lt_irrefl, decide_false, cond_false]
theorem spec_l7Many_nil {N : Nat} (hN : 4194304 ≤ N) : Q71 N [] = some (0, ()) := by
  obtain ⟨m, rfl⟩ : ∃ m, N = m + 1 := ⟨N - 1, by omega⟩
  simp only [Q71]
  rw [Q71_L1_succ]
  simp [Q71_B1, Q71_K1]
theorem cnt_stage (K k i : Nat) (n : Nat) : manyN (codeA K k) (n + 1) K = manyN (codeA K k) n K + digB (K + 1) k n := by
  have hd := dig_le K k n
  have key : ∀ m, m ≤ K → manyN (codeA K k) (n + 1) m = manyN (codeA K k) n m + (m - (K - digB (K + 1) k n)) := by
    intro m
    induction m with
    | zero => intro _; simp [manyN]
    | succ m ih =>
      intro hm
      simp only [manyN, ih (by omega), cnt_succ]
      by_cases e : codeA K k m n = true
      · rw [if_pos e]
        simp only [codeA, decide_eq_true_eq] at e
        omega
      · rw [if_neg e]
        simp only [codeA, decide_eq_true_eq] at e
        omega
  rw [key K (Nat.le_refl _)]; omega
theorem sumD_many (K k : Nat) : ∀ n, sumD (K + 1) k n = manyN (codeA K k) n K
  | 0 => by
    have : ∀ m, manyN (codeA K k) 0 m = 0 := fun m => by
      induction m with
      | zero => rfl
      | succ m ih => simp only [manyN, ih, cnt_zero]
    rw [this]; rfl
  | n + 1 => by rw [sumD, sumD_many K k n, cnt_stage K k 0 n]
theorem l7Less_row {N : Nat} {a b : Pl} {s : Nat} (hs : s < a.length) (hsb : s < b.length) (ha : (gd a s []).length < 4194304) (hl : a.length < 4194304) (kx : Pl → Pl → Int → Option (Bool × Unit)) : ∀ d i, (gd a s []).length - i = d → i ≤ (gd a s []).length → i ≤ (gd b s []).length → ∀ m, d < m →
    Q70_L1 N m kx a b (s : Nat) (i : Nat) = if cmpL ((gd a s []).drop i) ((gd b s []).drop i) = 0 then kx a b ((s + 1 : Nat) : Int) else some (decide (cmpL ((gd a s []).drop i) ((gd b s []).drop i) < 0), ())
  | d, i, hd, hi, hib, 0, hm => by omega
  | d, i, hd, hi, hib, m + 1, hm => by
    rw [Q70_L1_succ]
    simp only [Q70_B1, Q70_K1, ilt_eq, len_eq, Int.ofNat_lt, inB_true hs, inB_true hsb, chk_true', Int.toNat_natCast, ine_eq, iadd_nat (show s < 4611686018427387904 by omega)]
    by_cases h1 : i < (gd a s []).length
    · rw [drop_gd 0 h1]
      by_cases h2 : i < (gd b s []).length
      · rw [drop_gd 0 h2]
        have ih := l7Less_row (N := N) hs hsb ha hl kx (d - 1) (i + 1) (by omega) (by omega) (by omega) m (by omega)
        simp only [h1, h2, decide_true, cond_true, inB_true h1, inB_true h2, chk_true', iadd_nat (show i < 4611686018427387904 by omega), ih]
        show _ = if (if cmpI (gd (gd a s []) i 0) (gd (gd b s []) i 0) = 0 then cmpL ((gd a s []).drop (i + 1)) ((gd b s []).drop (i + 1)) else cmpI (gd (gd a s []) i 0) (gd (gd b s []) i 0)) = 0 then _ else some (decide ((if cmpI (gd (gd a s []) i 0) (gd (gd b s []) i 0) = 0 then cmpL ((gd a s []).drop (i + 1)) ((gd b s []).drop (i + 1)) else cmpI (gd (gd a s []) i 0) (gd (gd b s []) i 0)) < 0), ())
        by_cases q : gd (gd a s []) i 0 = gd (gd b s []) i 0
        · have qc : cmpI (gd (gd a s []) i 0) (gd (gd b s []) i 0) = 0 := by rw [q]; exact cmpI_ok.self _
          rw [if_pos qc]
          simp [q]
        · have qc : cmpI (gd (gd a s []) i 0) (gd (gd b s []) i 0) ≠ 0 := fun e => q (cmpI_ok.eq _ _ e)
          rw [if_neg qc, if_neg qc]
          simp only [q, decide_false, Bool.not_false, cond_true]
          congr 2
          rw [decide_eq_decide]
          unfold cmpI
          by_cases q2 : gd (gd a s []) i 0 < gd (gd b s []) i 0
          · rw [if_pos q2]; exact ⟨fun _ => by omega, fun _ => q2⟩
          · rw [if_neg q2]; split <;> exact ⟨fun e => absurd e q2, fun e => by omega⟩
      · rw [drop_out (xs := gd b s []) (by omega)]
        have e1 : cmpL (gd (gd a s []) i 0 :: (gd a s []).drop (i + 1)) [] = 1 := rfl
        rw [e1, if_neg (by decide)]
        have hne : ¬ (((gd a s []).length : Nat) : Int) = ((gd b s []).length : Nat) := by omega
        simp only [h1, h2, decide_true, decide_false, cond_true, cond_false, hne, Bool.not_false]
        rw [decide_eq_false (show ¬ (gd a s []).length < (gd b s []).length by omega)]; rfl
    · rw [drop_out (xs := gd a s []) (by omega)]
      simp only [h1, decide_false, cond_false]
      by_cases h2 : i < (gd b s []).length
      · rw [drop_gd 0 h2]
        have e1 : cmpL [] (gd (gd b s []) i 0 :: (gd b s []).drop (i + 1)) = -1 := rfl
        rw [e1, if_neg (by decide)]
        have hne : ¬ (((gd a s []).length : Nat) : Int) = ((gd b s []).length : Nat) := by omega
        simp only [hne, decide_false, Bool.not_false, cond_true]
        rw [decide_eq_true (show (gd a s []).length < (gd b s []).length by omega)]; rfl
      · rw [drop_out (xs := gd b s []) (by omega)]
        have e1 : cmpL [] [] = 0 := rfl
        have he : (((gd a s []).length : Nat) : Int) = ((gd b s []).length : Nat) := by omega
        rw [e1, if_pos rfl]
        simp only [he, decide_true, Bool.not_true, cond_false]
theorem l7Less_loop {N : Nat} {a b : Pl} (ha : SmPl a) (hab : a.length = b.length) (hN : 4194304 ≤ N) : ∀ d s, a.length - s = d → s ≤ a.length → ∀ m, d < m → Q70_L2 N m a b (s : Nat) = some (decide (cmpLL (a.drop s) (b.drop s) < 0), ())
  | d, s, hd, hs, 0, hm => by omega
  | d, s, hd, hs, m + 1, hm => by
    have hal := ha.l
    rw [Q70_L2_succ]
    simp only [Q70_B2, Q70_K2, ilt_eq, len_eq, Int.ofNat_lt]
    by_cases h : s < a.length
    · have ih := l7Less_loop (N := N) (b := b) ha hab hN (d - 1) (s + 1) (by omega) (by omega) m (by omega)
      have hrow := l7Less_row (N := N) (a := a) (b := b) h (by omega) (ha.r s h) hal (fun a1 b1 s => Q70_L2 N m a1 b1 s) (gd a s []).length 0 (by omega) (Nat.zero_le _) (Nat.zero_le _) N (by have := ha.r s h; omega)
      rw [drop_gd [] h, drop_gd [] (show s < b.length by omega)]
      simp only [h, decide_true, cond_true]
      simp only [List.drop_zero] at hrow
      rw [show (0 : Int) = ((0 : Nat) : Int) from rfl, hrow, ih]
      show _ = some (decide ((if cmpL (gd a s []) (gd b s []) = 0 then cmpLL (a.drop (s + 1)) (b.drop (s + 1)) else cmpL (gd a s []) (gd b s [])) < 0), ())
      by_cases q : cmpL (gd a s []) (gd b s []) = 0
      · rw [if_pos q, if_pos q]
      · rw [if_neg q, if_neg q]
    · rw [drop_out (xs := a) (by omega), drop_out (xs := b) (by omega)]
      simp only [h, decide_false, cond_false]; rfl
theorem spec_l7Less_eq {N : Nat} {a b : Pl} (ha : SmPl a) (hab : a.length = b.length) (hN : 4194304 ≤ N) : Q70 N a b = some (decide (cmpLL a b < 0), ()) := by
  have := l7Less_loop (N := N) (b := b) ha hab hN a.length 0 (by omega) (Nat.zero_le _) N (by have := ha.l; omega)
  simpa [Q70] using this
abbrev Fam := Nat → Nat → Bool
def betA (c : Ch) (A B : Fam) : Bool := betterB (nestCost c A) (nestCost c B) (manyN A c.1.length c.2.1.length) (manyN B c.1.length c.2.1.length) (famL A c.2.1.length c.1.length) (famL B c.2.1.length c.1.length)
def upd (c : Ch) (o : Option Fam) (A : Fam) : Option Fam := if covAll c A then (match o with | none => some A | some B => if betA c A B then some A else some B) else o
def setA (A : Fam) (j : Nat) (S : Nat → Bool) : Fam := fun s => if s = j then S else A s
def mayB (c : Ch) (A : Fam) (j k : Nat) : Bool := decide (j + 1 = c.2.1.length) || subS (bitS k) (A (j + 1)) c.1.length
def foldT (f : Nat → Option Fam → Option Fam) (o : Option Fam) : Nat → Option Fam
  | 0 => o
  | k + 1 => f k (foldT f o k)
def tryA (c : Ch) : Nat → Fam → Option Fam → Option Fam
  | 0, A, o => upd c o A
  | j + 1, A, o => foldT (fun k o => if mayB c A j k then tryA c j (setA A j (bitS k)) o else o) o (2 ^ c.1.length)
def lastA (c : Ch) (A : Fam) (j : Nat) : Pl := (List.range (c.2.1.length - j)).map fun i => pns (A (j + i)) c.1.length
theorem lastA_zero (c : Ch) (A : Fam) : lastA c A 0 = famL A c.2.1.length c.1.length := by
  simp only [lastA, famL, Nat.sub_zero, Nat.zero_add]
theorem lastA_len (c : Ch) (A : Fam) (j : Nat) : (lastA c A j).length = c.2.1.length - j := map_range_len _ _
theorem lastA_cons {c : Ch} {A : Fam} {j : Nat} (hj : j < c.2.1.length) (S : Nat → Bool) : pns S c.1.length :: lastA c A (j + 1) = lastA c (setA A j S) j := by
  simp only [lastA]
  rw [show c.2.1.length - j = (c.2.1.length - (j + 1)) + 1 by omega, List.range_succ_eq_map, List.map_cons, List.map_map]
  congr 1
  · simp [setA]
  · apply List.map_congr_left
    intro i _
    simp only [Function.comp, setA]
    rw [if_neg (by omega), show j + 1 + i = j + i.succ by omega]
def nestFrom (c : Ch) (A : Fam) (j : Nat) : Prop := ∀ s, j ≤ s → s + 1 < c.2.1.length → ∀ p, p < c.1.length → A s p = true → A (s + 1) p = true
def validA (c : Ch) (A : Fam) : Prop := NestedA A c.1.length c.2.1.length ∧ covAll c A = true
def encB (c : Ch) : Option Fam → Pl × Int × Bool
  | none => ([], (0, false))
  | some A => (famL A c.2.1.length c.1.length, (nestCost c A, true))
def okB (c : Ch) (o : Option Fam) : Prop := ∀ A, o = some A → validA c A
theorem upd_ok {c : Ch} {o : Option Fam} {A : Fam} (h : okB c o) (hA : NestedA A c.1.length c.2.1.length) : okB c (upd c o A) := by
  intro B hB
  unfold upd at hB
  split at hB
  · rename_i hc
    split at hB
    · cases hB; exact ⟨hA, hc⟩
    · rename_i D
      split at hB
      · cases hB; exact ⟨hA, hc⟩
      · cases hB; exact h _ rfl
  · exact h B hB
theorem nestFrom_set {c : Ch} {A : Fam} {j k : Nat} (h : nestFrom c A (j + 1)) (hm : mayB c A j k = true) : nestFrom c (setA A j (bitS k)) j := by
  intro s hs hK p hp hA
  simp only [setA] at hA ⊢
  rw [if_neg (by omega)]
  by_cases e : s = j
  · subst e
    rw [if_pos rfl] at hA
    simp only [mayB, Bool.or_eq_true, decide_eq_true_eq] at hm
    rcases hm with hm | hm
    · omega
    · exact subS_iff.1 hm p hp hA
  · rw [if_neg e] at hA
    exact h s (by omega) hK p hp hA
theorem foldT_ok {c : Ch} {f : Nat → Option Fam → Option Fam} (hf : ∀ k o, okB c o → okB c (f k o)) {o : Option Fam} (h : okB c o) : ∀ n, okB c (foldT f o n)
  | 0 => h
  | n + 1 => hf n _ (foldT_ok hf h n)
theorem tryA_ok {c : Ch} : ∀ j A o, nestFrom c A j → okB c o → okB c (tryA c j A o)
  | 0, A, o, hA, h => upd_ok h fun s hs p hp hh => hA s (Nat.zero_le _) hs p hp hh
  | j + 1, A, o, hA, h => foldT_ok (fun k o ho => by
      by_cases hm : mayB c A j k = true
      · rw [if_pos hm]; exact tryA_ok j _ o (nestFrom_set hA hm) ho
      · rw [if_neg hm]; exact ho) h _
def notBet (c : Ch) (o : Option Fam) (X : Fam) : Prop := ∃ B, o = some B ∧ betA c X B = false
theorem betA_self (c : Ch) (A : Fam) : betA c A A = false := better_self
theorem betA_trans {c : Ch} {A B D : Fam} (h1 : betA c A B = true) (h2 : betA c B D = true) : betA c A D = true := betterB_trans h1 h2
theorem upd_keep {c : Ch} {o : Option Fam} {A X : Fam} (h : notBet c o X) : notBet c (upd c o A) X := by
  obtain ⟨B, rfl, hb⟩ := h
  unfold upd
  split
  · simp only
    split
    · rename_i hAB
      refine ⟨A, rfl, ?_⟩
      cases hq : betA c X A with
      | false => rfl
      | true => rw [betA_trans hq hAB] at hb; cases hb
    · exact ⟨B, rfl, hb⟩
  · exact ⟨B, rfl, hb⟩
theorem foldT_keep {c : Ch} {X : Fam} {f : Nat → Option Fam → Option Fam} (hf : ∀ k o, notBet c o X → notBet c (f k o) X) {o : Option Fam} (h : notBet c o X) : ∀ n, notBet c (foldT f o n) X
  | 0 => h
  | n + 1 => hf n _ (foldT_keep hf h n)
theorem foldT_at {c : Ch} {X : Fam} {f : Nat → Option Fam → Option Fam} (hf : ∀ k o, notBet c o X → notBet c (f k o) X) {o : Option Fam} {k0 : Nat} (hk : ∀ o, notBet c (f k0 o) X) : ∀ n, k0 < n → notBet c (foldT f o n) X
  | 0, h => by omega
  | n + 1, h => by
    by_cases e : k0 = n
    · subst e; exact hk _
    · exact hf n _ (foldT_at hf hk n (by omega))
theorem tryA_keep {c : Ch} {X : Fam} : ∀ j A o, notBet c o X → notBet c (tryA c j A o) X
  | 0, _, _, h => upd_keep h
  | j + 1, A, o, h => foldT_keep (fun k o ho => by
      by_cases hm : mayB c A j k = true
      · rw [if_pos hm]; exact tryA_keep j _ o ho
      · rw [if_neg hm]; exact ho) h _
theorem bet_ext {c : Ch} {A B X : Fam} (h : ∀ s, s < c.2.1.length → ∀ p, p < c.1.length → A s p = B s p) : betA c A X = betA c B X := by
  obtain ⟨h1, _, h3⟩ := nestCost_ext h
  have h4 : ∀ m, m ≤ c.2.1.length → manyN A c.1.length m = manyN B c.1.length m := by
    intro m
    induction m with
    | zero => intro _; rfl
    | succ m ih =>
      intro hm
      simp only [manyN, ih (by omega)]
      have : pns (A m) c.1.length = pns (B m) c.1.length := pns_ext (h m (by omega))
      unfold cnt
      rw [this]
  unfold betA
  rw [h1, h3, h4 _ (Nat.le_refl _)]
theorem tryA_min {c : Ch} {X : Fam} (hX : validA c X) : ∀ j A o, j ≤ c.2.1.length → (∀ s, j ≤ s → s < c.2.1.length → ∀ p, p < c.1.length → A s p = X s p) → notBet c (tryA c j A o) X
  | 0, A, o, _, h => by
    have hall : ∀ s, s < c.2.1.length → ∀ p, p < c.1.length → A s p = X s p := fun s hs => h s (Nat.zero_le _) hs
    have hcv : covAll c A = true := by rw [(nestCost_ext hall).2.1]; exact hX.2
    simp only [tryA, upd]
    rw [if_pos hcv]
    have e : ∀ Y, betA c X Y = betA c A Y := fun Y => (bet_ext hall).symm
    split
    · exact ⟨A, rfl, by rw [e]; exact betA_self c A⟩
    · rename_i B
      split
      · exact ⟨A, rfl, by rw [e]; exact betA_self c A⟩
      · rename_i hb
        exact ⟨B, rfl, by rw [e]; simpa using hb⟩
  | j + 1, A, o, hj, h => by
    obtain ⟨k, k1, k2⟩ := code_ofB (X j) c.1.length
    have hm : mayB c A j k = true := by
      simp only [mayB, Bool.or_eq_true, decide_eq_true_eq]
      by_cases e : j + 1 = c.2.1.length
      · exact .inl e
      · refine .inr (subS_iff.2 fun p hp hb => ?_)
        rw [h (j + 1) (Nat.le_refl _) (by omega) p hp]
        rw [k2 p hp] at hb
        exact hX.1 j (by omega) p hp hb
    refine foldT_at (c := c) (X := X) (fun k o ho => ?_) (k0 := k) (fun o => ?_) _ k1
    · by_cases hm : mayB c A j k = true
      · rw [if_pos hm]; exact tryA_keep j _ o ho
      · rw [if_neg hm]; exact ho
    · show notBet c (if mayB c A j k = true then tryA c j (setA A j (bitS k)) o else o) X
      rw [if_pos hm]
      refine tryA_min hX j _ o (by omega) fun s hs hK p hp => ?_
      simp only [setA]
      by_cases e : s = j
      · subst e; rw [if_pos rfl]; exact k2 p hp
      · rw [if_neg e]; exact h s (by omega) hK p hp
theorem try_leaf {N : Nat} {c : Ch} (hc : ChainP c) (hcb : chainB c = true) (hs : SmCh c) {A : Fam} (hA : NestedA A c.1.length c.2.1.length) {o : Option Fam} (ho : okB c o) (hN : 4194304 ≤ N) (kr : Ch → Pl → Pl × Int × Bool → Option ((Pl × Int × Bool) × Unit)) :
    Q76_F N kr c (lastA c A 0) (encB c o) = some (encB c (upd c o A), ()) := by
  have hn := hc.n
  have h3 := hc.s3
  rw [lastA_zero]
  simp only [Q76_F, len_eq, famL_len, ieq_eq, decide_true, cond_true, spec_NestedPlan_nested hc hcb hs hA hN, Option.bind_some, bif_not]
  unfold upd
  by_cases hcv : covAll c A = true
  · have hcov := covAll_iff.1 hcv
    have hcost : Q66 N c (nestPlan c A) = some (nestCost c A, ()) := by rw [spec_l7Cost_eq (nestPlan_ch hc hcb hA hcov) hN, nest_cost]
    have hm := spec_l7Many_fam (N := N) A h3 hn hN
    rw [if_pos hcv]
    simp only [hcv, cond_true, hcost, Option.bind_some, hm]
    cases o with
    | none => simp only [encB, spec_l7Many_nil hN, Option.bind_some, cond_false]
    | some B =>
      have hless := spec_l7Less_eq (N := N) (a := famL A c.2.1.length c.1.length) (b := famL B c.2.1.length c.1.length) (famL_sm A (by omega) (by omega)) (by rw [famL_len, famL_len]) hN
      simp only [encB, spec_l7Many_fam (N := N) B h3 hn hN, Option.bind_some, cond_true, hless, ilt_eq, ieq_eq, betA, betterB, Int.ofNat_lt, Int.natCast_inj]
      by_cases q1 : nestCost c A < nestCost c B
      · simp [q1]
      · by_cases q0 : nestCost c A = nestCost c B
        · by_cases q2 : manyN A c.1.length c.2.1.length < manyN B c.1.length c.2.1.length
          · simp [eq_false q1, eq_true q0, q2]
          · by_cases q3 : manyN A c.1.length c.2.1.length = manyN B c.1.length c.2.1.length
            · by_cases q4 : cmpLL (famL A c.2.1.length c.1.length) (famL B c.2.1.length c.1.length) < 0 <;> simp [eq_false q1, eq_true q0, eq_false q2, eq_true q3, q4]
            · simp [eq_false q1, eq_true q0, eq_false q2, eq_false q3]
        · simp [eq_false q1, eq_false q0]
  · have hcv' : covAll c A = false := by simpa using hcv
    rw [if_neg hcv]
    simp only [hcv', cond_false]
theorem try_eq {N : Nat} {c : Ch} (hc : ChainP c) (hcb : chainB c = true) (hs : SmCh c) (hN : 4194304 ≤ N) : ∀ j m A o, j ≤ c.2.1.length → j < m → nestFrom c A j → okB c o → Q76_R N m c (lastA c A j) (encB c o) = some (encB c (tryA c j A o), ())
  | 0, m, A, o, _, hm, hA, ho => by
    obtain ⟨m, rfl⟩ : ∃ q, m = q + 1 := ⟨m - 1, by omega⟩
    rw [Q76_R_succ]
    exact try_leaf hc hcb hs (fun s hs p hp hh => hA s (Nat.zero_le _) hs p hp hh) ho hN _
  | j + 1, m, A, o, hj, hm, hA, ho => by
    have hn := hc.n
    have h3 := hc.s3
    have hp := pow_le6 hn
    obtain ⟨m, rfl⟩ : ∃ q, m = q + 1 := ⟨m - 1, by omega⟩
    rw [Q76_R_succ]
    have hne : ¬ (((c.2.1.length - (j + 1) : Nat) : Int) = ((c.2.1.length : Nat) : Int)) := by omega
    simp only [Q76_F, len_eq, lastA_len, ieq_eq, hne, decide_false, cond_false]
    have hok : ∀ k, okB c (foldT (fun k o => if mayB c A j k then tryA c j (setA A j (bitS k)) o else o) o k) := foldT_ok (fun k o ho => by
      by_cases hm : mayB c A j k = true
      · rw [if_pos hm]; exact tryA_ok j _ o (nestFrom_set hA hm) ho
      · rw [if_neg hm]; exact ho) ho
    refine Q76_L1_run N (Q76_R N m) (fun _ => lastA c A (j + 1)) (fun k => (k : Int)) (fun _ => c) (fun k => encB c (foldT (fun k o => if mayB c A j k then tryA c j (setA A j (bitS k)) o else o) o k)) (fun _ => ([], (0, false))) (2 ^ c.1.length) (fun k hk kx => ?_) (fun kx => ?_) N (by omega)
    · have hrec : mayB c A j k = true → Q76_R N m c (pns (bitS k) c.1.length :: lastA c A (j + 1)) (encB c (foldT (fun k o => if mayB c A j k then tryA c j (setA A j (bitS k)) o else o) o k)) = some (encB c (tryA c j (setA A j (bitS k)) (foldT (fun k o => if mayB c A j k then tryA c j (setA A j (bitS k)) o else o) o k)), ()) := fun hmy => by
        rw [lastA_cons (by omega)]
        exact try_eq hc hcb hs hN j m _ _ (by omega) (by omega) (nestFrom_set hA hmy) (hok k)
      have hf : foldT (fun k o => if mayB c A j k then tryA c j (setA A j (bitS k)) o else o) o (k + 1) = if mayB c A j k = true then tryA c j (setA A j (bitS k)) (foldT (fun k o => if mayB c A j k then tryA c j (setA A j (bitS k)) o else o) o k) else foldT (fun k o => if mayB c A j k then tryA c j (setA A j (bitS k)) o else o) o k := rfl
      simp only [Q76_B1, ile_eq, len_eq, show (0 : Int) ≤ c.1.length by omega, decide_true, chk_true', ishl_one (show c.1.length ≤ 30 by omega), ilt_eq, Int.ofNat_lt, hk, cond_true, spec_l2Bits_eq (N := N) (show c.1.length ≤ 30 by omega) (show k < 1000000000 by omega) hN, Option.bind_some, lastA_len, ieq_eq, List.cons_append, List.nil_append, iadd_nat (show k < 4611686018427387904 by omega), chk_of (fitB_in (n := 1 + (c.2.1.length - (j + 1))) (b := 24) (by omega) (by omega)), hf]
      by_cases e : j + 1 = c.2.1.length
      · have hmy : mayB c A j k = true := by simp [mayB, e]
        rw [if_pos hmy, decide_eq_true (show (((c.2.1.length - (j + 1) : Nat) : Int)) = 0 by omega)]
        simp only [cond_true, hrec hmy, Option.bind_some]
      · rw [decide_eq_false (show ¬ (((c.2.1.length - (j + 1) : Nat) : Int)) = 0 by omega)]
        have e0 : gd (lastA c A (j + 1)) 0 [] = pns (A (j + 1)) c.1.length := by
          have := gd_map_range (fun i => pns (A (j + 1 + i)) c.1.length) ([] : List Int) (show 0 < c.2.1.length - (j + 1) by omega)
          exact this
        have hmy : mayB c A j k = subS (bitS k) (A (j + 1)) c.1.length := by simp [mayB, e]
        simp only [cond_false, chk_of (inB_in (i := 0) (n := c.2.1.length - (j + 1)) (by omega) (by omega)), e0, spec_l7Within_pns (bitS k) (A (j + 1)) (show c.1.length < 1000 by omega) hN, Option.bind_some]
        rw [← hmy]
        by_cases hb : mayB c A j k = true
        · rw [if_pos hb]
          simp only [hb, cond_true, hrec hb, Option.bind_some]
        · rw [if_neg hb]
          have hb' : mayB c A j k = false := by simpa using hb
          simp only [hb', cond_false]
    · simp only [Q76_B1, Q76_K1, ile_eq, len_eq, show (0 : Int) ≤ c.1.length by omega, decide_true, chk_true', ishl_one (show c.1.length ≤ 30 by omega), ilt_eq, Int.lt_irrefl, decide_false, cond_false]
      rfl
theorem both_best {c : Ch} (hc : ChainP c) : ∃ j R, j < allNo c ∧ bestNo c (allNo c) = some j ∧ covK c j = true ∧ cstK c j = outV c 0 ∧ tryA c c.2.1.length (fun _ _ => false) none = some R ∧ famL R c.2.1.length c.1.length = famK c j := by
  obtain ⟨j, h1, h2, h3, h4, h5⟩ := bestNo_end hc
  have hv : validA c (codeA c.2.1.length j) := ⟨codeA_nested _ _ _, h3⟩
  obtain ⟨R, r1, r2⟩ := tryA_min hv c.2.1.length (fun _ _ => false) none (Nat.le_refl _) (fun s a b => by omega)
  have hR := tryA_ok (c := c) c.2.1.length (fun _ _ => false) none (fun s a b => by omega) (fun A h => by cases h) R r1
  obtain ⟨k, k1, k2⟩ := code_nested hR.1
  have hk : covK c k = true := by show covAll c (codeA c.2.1.length k) = true; rw [(nestCost_ext k2).2.1]; exact hR.2
  have hb := h5 k k1 hk
  have e1 : betA c (codeA c.2.1.length k) (codeA c.2.1.length j) = false := by
    unfold betA
    rw [← sumD_many, ← sumD_many]
    exact hb
  rw [bet_ext k2] at e1
  exact ⟨j, R, h1, h2, h3, h4, r1, better_one e1 r2⟩
theorem impl_BestNested_eq {N : Nat} {c : Ch} (hs : SmCh c) (hN : 4194304 ≤ N) : (chainB c = false ∧ Q4 N c = some (([], false), ())) ∨ (chainB c = true ∧ ∃ j, bestNo c (allNo c) = some j ∧ Q4 N c = some ((famK c j, true), ())) := by
  simp only [Q4, impl_IsChain_eq hs hN, Option.bind_some, bif_not]
  cases h : chainB c with
  | false => exact .inl ⟨rfl, rfl⟩
  | true =>
    obtain ⟨j, _, h2, _⟩ := bestNo_end (chainP h)
    refine .inr ⟨rfl, j, h2, ?_⟩
    simp only [cond_true, impl_bestNested_eq (chainP h) h hs hN, Option.bind_some, h2, encP]
theorem spec_BestNested_eq {N : Nat} {c : Ch} (hs : SmCh c) (hN : 4194304 ≤ N) : (chainB c = false ∧ Q43 N c = some (([], false), ())) ∨ (chainB c = true ∧ ∃ j, bestNo c (allNo c) = some j ∧ Q43 N c = some ((famK c j, true), ())) := by
  simp only [Q43, spec_l7Good_eq hs hN, Option.bind_some, bif_not]
  cases h : chainB c with
  | false => exact .inl ⟨rfl, rfl⟩
  | true =>
    have hc := chainP h
    have hn := hc.n
    have h3 := hc.s3
    obtain ⟨j, R, j1, j2, j3, j4, r1, r2⟩ := both_best hc
    refine .inr ⟨rfl, j, j2, ?_⟩
    have ht := try_eq hc h hs hN c.2.1.length N (fun _ _ => false) none (Nat.le_refl _) (by omega) (fun s a b => by omega) (fun A h => by cases h)
    have e0 : lastA c (fun _ _ => false) c.2.1.length = [] := by simp [lastA]
    rw [e0, r1] at ht
    have ht' : Q76 N c [] ([], (0, false)) = some ((famL R c.2.1.length c.1.length, (nestCost c R, true)), ()) := ht
    simp only [cond_true, ht', Option.bind_some, r2]
    have hlen : (famK c j).length = c.2.1.length := famL_len _ _ _
    have hsm : SmPl (famK c j) := famL_sm _ (by omega) (by omega)
    refine (Q43_L1_run N (fun _ => famK c j) (fun s => (s : Int)) (fun s => (famK c j).take s) c.2.1.length (fun s hs' kx => ?_) (fun kx => ?_) N (by omega))
    · have hr := hsm.r s (by omega)
      simp only [Q43_B1, ilt_eq, len_eq, hlen, Int.ofNat_lt, hs', decide_true, cond_true, inB_true hs', chk_true', Int.toNat_natCast, Q50, Nat.zero_add, chk_of (fitB_in (b := 8) hr (by omega)), Option.bind_some, chk_of (fitB_in (n := ((famK c j).take s).length + 1) (b := 24) (by rw [List.length_take]; omega) (by omega)), iadd_nat (show s < 4611686018427387904 by omega)]
      congr 1
      rw [List.take_add_one]
      simp [gd, List.getD_eq_getElem?_getD, hlen, hs']
    · simp only [Q43_B1, Q43_K1, ilt_eq, len_eq, hlen, Int.lt_irrefl, decide_false, cond_false]
      rw [← hlen, List.take_length]
structure TinyP (a : Pl) : Prop where
  l : a.length ≤ 1000
  r : ∀ s, s < a.length → (gd a s []).length ≤ 1000
theorem TinyP.sm {a : Pl} (h : TinyP a) : SmPl a := ⟨by have := h.l; omega, fun s hs => by have := h.r s hs; omega⟩
noncomputable def bestK (c : Cs) : Nat := Classical.choose (best_found c)
theorem bestK_is (c : Cs) : covS (bitS (bestK c)) c.1 = true ∧ bestSt c (2 ^ c.1.length) = (pns (bitS (bestK c)) c.1.length, costOf c (planS (bitS (bestK c)) c.1)) := (Classical.choose_spec (best_found c)).2
noncomputable def swS (c : Ch) (j : Nat) (need : List Int) : Nat → Bool := bitS (bestK (evenC need (gd c.2.1 (c.2.1.length - 1 - j) 0) (gd c.2.2 (c.2.1.length - 1 - j) 0)))
noncomputable def swN (c : Ch) : Nat → List Int
  | 0 => c.1
  | j + 1 => planS (swS c j (swN c j)) (swN c j)
theorem swN_len (c : Ch) : ∀ j, (swN c j).length = c.1.length
  | 0 => rfl
  | j + 1 => by simp only [swN, planS_len]; exact swN_len c j
def okN (need : List Int) : Bool := need.all (inRg 0 20)
theorem okN_bd {need : List Int} : okN need = true ↔ bd 20 need := bd_iff
theorem swN_cov (c : Ch) (j : Nat) : covS (swS c j (swN c j)) (swN c j) = true := (bestK_is _).1
theorem caseB_even {need : List Int} {a h : Int} (hn : need.length ≤ 6) (ha : 0 ≤ a ∧ a ≤ 99) (hh : 0 ≤ h ∧ h ≤ 9) : caseB (evenC need a h) = okN need := by
  rw [Bool.eq_iff_iff, caseB_iff, okN_bd]
  constructor
  · intro hp; exact hp.b0
  · intro hb; exact evenC_P hn hb ha hh
theorem sw_stage {N : Nat} {c : Ch} (hc : ChainP c) {j : Nat} (hj : j < c.2.1.length) (hok : okN (swN c j) = true) (hN : 4194304 ≤ N) :
    Q6 N (evenC (swN c j) (gd c.2.1 (c.2.1.length - 1 - j) 0) (gd c.2.2 (c.2.1.length - 1 - j) 0)) = some ((pns (swS c j (swN c j)) (swN c j).length, costOf (evenC (swN c j) (gd c.2.1 (c.2.1.length - 1 - j) 0) (gd c.2.2 (c.2.1.length - 1 - j) 0)) (planS (swS c j (swN c j)) (swN c j))), ()) ∧
    Q9 N (evenC (swN c j) (gd c.2.1 (c.2.1.length - 1 - j) 0) (gd c.2.2 (c.2.1.length - 1 - j) 0)) (pns (swS c j (swN c j)) (swN c j).length) = some ((swN c (j + 1), true), ()) ∧
    Q54 N (evenC (swN c j) (gd c.2.1 (c.2.1.length - 1 - j) 0) (gd c.2.2 (c.2.1.length - 1 - j) 0)) = some (pns (swS c j (swN c j)) (swN c j).length, ()) ∧
    Q58 N (evenC (swN c j) (gd c.2.1 (c.2.1.length - 1 - j) 0) (gd c.2.2 (c.2.1.length - 1 - j) 0)) (pns (swS c j (swN c j)) (swN c j).length) = some (swN c (j + 1), ()) := by
  have hl := hc.l
  have hP := evenC_P (need := swN c j) (setup := gd c.2.1 (c.2.1.length - 1 - j) 0) (hold := gd c.2.2 (c.2.1.length - 1 - j) 0) (by rw [swN_len]; exact hc.n) (okN_bd.1 hok) (hc.b1 _ (by omega)) (hc.b2 _ (by omega))
  have h1 := impl_Case_best_eq hP hN
  have h2 := impl_Case_planFrom_eq hP (swS c j (swN c j)) hN
  have h3 := spec_l2Best_eq hP hN
  have h4 := spec_l2From_eq hP (swS c j (swN c j)) hN
  have hb := (bestK_is (evenC (swN c j) (gd c.2.1 (c.2.1.length - 1 - j) 0) (gd c.2.2 (c.2.1.length - 1 - j) 0))).2
  have e1 : (evenC (swN c j) (gd c.2.1 (c.2.1.length - 1 - j) 0) (gd c.2.2 (c.2.1.length - 1 - j) 0)).1 = swN c j := rfl
  rw [e1] at h2 h4
  rw [swN_cov] at h2
  refine ⟨?_, h2, ?_, h4⟩
  · rw [h1]; rw [hb]; rfl
  · rw [h3]; rw [hb]; rfl
noncomputable def swRows (c : Ch) (j : Nat) : Pl := (List.range c.2.1.length).map fun s => if c.2.1.length ≤ s + j then swN c (c.2.1.length - s) else []
noncomputable def swTail (c : Ch) (j : Nat) : Pl := (List.range j).map fun i => swN c (j - i)
theorem swRows_len (c : Ch) (j : Nat) : (swRows c j).length = c.2.1.length := map_range_len _ _
theorem swRows_gd (c : Ch) (j : Nat) {s : Nat} (h : s < c.2.1.length) : gd (swRows c j) s [] = if c.2.1.length ≤ s + j then swN c (c.2.1.length - s) else [] := gd_map_range _ [] h
theorem swRows_set {c : Ch} {j : Nat} (hj : j < c.2.1.length) : List.set (swRows c j) (c.2.1.length - 1 - j) (swN c (j + 1)) = swRows c (j + 1) := gdl_ext (by simp [swRows_len]) fun s hs => by
  simp only [List.length_set, swRows_len] at hs
  rw [gdl_set (by rw [swRows_len]; omega), swRows_gd c j hs, swRows_gd c (j + 1) hs]
  by_cases e : s = c.2.1.length - 1 - j
  · rw [if_pos e, if_pos (by omega), show c.2.1.length - s = j + 1 by omega]
  · rw [if_neg e]
    by_cases e2 : c.2.1.length ≤ s + j
    · rw [if_pos e2, if_pos (by omega)]
    · rw [if_neg e2, if_neg (by omega)]
theorem swRows_all (c : Ch) : swRows c c.2.1.length = swTail c c.2.1.length := by
  unfold swRows swTail
  apply List.map_congr_left
  intro s hs
  rw [List.mem_range] at hs
  rw [if_pos (by omega)]
theorem swTail_cons (c : Ch) (j : Nat) : [swN c (j + 1)] ++ swTail c j = swTail c (j + 1) := by
  simp only [swTail, List.range_succ_eq_map, List.map_cons, List.map_map, Nat.sub_zero, List.singleton_append]
  congr 1
  apply List.map_congr_left
  intro i _
  simp only [Function.comp]
  rw [show j + 1 - i.succ = j - i by omega]
noncomputable def swOk (c : Ch) : Bool := (List.range c.2.1.length).all fun j => okN (swN c j)
noncomputable def swOf (c : Ch) : Pl × Bool := bif swOk c then (swTail c c.2.1.length, true) else ([], false)
theorem spec_Stagewise_loop {N : Nat} {c : Ch} (hc : ChainP c) (hN : 4194304 ≤ N) : Q46_L1 N N c.1 ((c.2.1.length : Int) - 1) c [] = some (swOf c, ()) := by
  have hn := hc.n
  have h3 := hc.s3
  have hl := hc.l
  have step : ∀ j, j < c.2.1.length → ∀ kx, Q46_B1 N kx (swN c j) ((c.2.1.length : Int) - 1 - (j : Nat)) c (swTail c j) = bif okN (swN c j) then kx (swN c (j + 1)) ((c.2.1.length : Int) - 1 - ((j + 1 : Nat) : Int)) c (swTail c (j + 1)) else some (([], false), ()) := fun j hj kx => by
    have hs : (c.2.1.length : Int) - 1 - (j : Nat) = ((c.2.1.length - 1 - j : Nat) : Int) := by omega
    have hsm : SmC (evenC (swN c j) (gd c.2.1 (c.2.1.length - 1 - j) 0) (gd c.2.2 (c.2.1.length - 1 - j) 0)) := evenC_sm _ _ (by rw [swN_len]; omega)
    have hlen : (swTail c j).length = j := map_range_len _ _
    rw [hs]
    simp only [Q46_B1, ile_eq, show (0 : Int) ≤ ((c.2.1.length - 1 - j : Nat) : Int) by omega, decide_true, cond_true, inB_true (show c.2.1.length - 1 - j < c.2.1.length by omega), inB_true (show c.2.1.length - 1 - j < c.2.2.length by omega), chk_true', Int.toNat_natCast, spec_l7Case_eq _ _ (show (swN c j).length ≤ 6 by rw [swN_len]; exact hn) hN, Option.bind_some, spec_l2Good_eq hsm hN, caseB_even (show (swN c j).length ≤ 6 by rw [swN_len]; exact hn) (hc.b1 _ (show c.2.1.length - 1 - j < c.2.1.length by omega)) (hc.b2 _ (show c.2.1.length - 1 - j < c.2.2.length by omega)), bif_not]
    by_cases hok : okN (swN c j) = true
    · obtain ⟨_, _, g3, g4⟩ := sw_stage hc hj hok hN
      simp only [hok, cond_true, g3, g4, Option.bind_some, hlen, chk_of (fitB_in (n := 1 + j) (b := 24) (by omega) (by omega)), swTail_cons]
      rw [isub_in (by omega) (by omega)]
      congr 1
      omega
    · have hok' : okN (swN c j) = false := by simpa using hok
      simp only [hok', cond_false]
  have e0 : (c.2.1.length : Int) - 1 = (c.2.1.length : Int) - 1 - ((0 : Nat) : Int) := by omega
  have et : ([] : Pl) = swTail c 0 := rfl
  rw [e0, et]
  rcases range_cases (fun j => okN (swN c j)) c.2.1.length with ⟨h1, h2⟩ | ⟨h1, j, h2, h4, h5⟩
  · have h1' : swOk c = true := h1
    rw [swOf, h1']
    refine Q46_L1_run N (fun j => swN c j) (fun j => (c.2.1.length : Int) - 1 - (j : Nat)) (fun _ => c) (fun j => swTail c j) c.2.1.length (fun j hj kx => ?_) (fun kx => ?_) N (by omega)
    · rw [step j hj kx, h2 j hj]; rfl
    · simp only [Q46_B1, Q46_K1, ile_eq, show ¬ (0 : Int) ≤ (c.2.1.length : Int) - 1 - ((c.2.1.length : Nat) : Int) by omega, decide_false, cond_false, cond_true]
  · have h1' : swOk c = false := h1
    rw [swOf, h1']
    exact Q46_L1_run N (fun j => swN c j) (fun j => (c.2.1.length : Int) - 1 - (j : Nat)) (fun _ => c) (fun j => swTail c j) j (fun i hi kx => by rw [step i (by omega) kx, h4 i hi]; rfl) (fun kx => by rw [step j h2 kx, h5]; rfl) N (by omega)
theorem impl_Stagewise_loop {N : Nat} {c : Ch} (hc : ChainP c) (hN : 4194304 ≤ N) : Q19_L1 N N (c.2.1.length - 1) ((c.2.1.length : Int) - 2) c (swRows c 1) = some (swOf c, ()) := by
  have hn := hc.n
  have h3 := hc.s3
  have h1 := hc.s1
  have hl := hc.l
  have hok0 : okN (swN c 0) = true := okN_bd.2 hc.b0
  have step : ∀ i, i + 1 < c.2.1.length → ∀ kx, Q19_B1 N kx (c.2.1.length - 1 - i) ((c.2.1.length : Int) - 2 - (i : Nat)) c (swRows c (i + 1)) = bif okN (swN c (i + 1)) then kx (c.2.1.length - 1 - (i + 1)) ((c.2.1.length : Int) - 2 - ((i + 1 : Nat) : Int)) c (swRows c (i + 1 + 1)) else some (([], false), ()) := fun i hi kx => by
    have hs : (c.2.1.length : Int) - 2 - (i : Nat) = ((c.2.1.length - 1 - (i + 1) : Nat) : Int) := by omega
    have e1 : gd (swRows c (i + 1)) (c.2.1.length - 1 - i) [] = swN c (i + 1) := by rw [swRows_gd c _ (by omega), if_pos (by omega), show c.2.1.length - (c.2.1.length - 1 - i) = i + 1 by omega]
    rw [hs]
    simp only [Q19_B1, ile_eq, show (0 : Int) ≤ ((c.2.1.length - 1 - (i + 1) : Nat) : Int) by omega, decide_true, cond_true, e1, impl_allWithin_eq (show (swN c (i + 1)).length < 4194304 by rw [swN_len]; omega) hN, Option.bind_some, bif_not]
    show (bif okN (swN c (i + 1)) then _ else _) = _
    by_cases hok : okN (swN c (i + 1)) = true
    · obtain ⟨g1, g2, _, _⟩ := sw_stage hc hi hok hN
      simp only [hok, cond_true, inB_true (show c.2.1.length - 1 - (i + 1) < c.2.1.length by omega), inB_true (show c.2.1.length - 1 - (i + 1) < c.2.2.length by omega), chk_true', Int.toNat_natCast, impl_evenCase_eq _ _ (show (swN c (i + 1)).length ≤ 6 by rw [swN_len]; exact hn) hN, Option.bind_some, g1, g2, inB_true (show c.2.1.length - 1 - (i + 1) < (swRows c (i + 1)).length by rw [swRows_len]; omega), List.length_set, swRows_set hi]
      rw [isub_in (by omega) (by omega)]
      congr 1
      omega
    · have hok' : okN (swN c (i + 1)) = false := by simpa using hok
      simp only [hok', cond_false]
  have ea : c.2.1.length - 1 = c.2.1.length - 1 - 0 := by omega
  have eb : (c.2.1.length : Int) - 2 = (c.2.1.length : Int) - 2 - ((0 : Nat) : Int) := by omega
  rcases range_cases (fun j => okN (swN c j)) c.2.1.length with ⟨h1', h2⟩ | ⟨h1', j, h2, h4, h5⟩
  · have h1'' : swOk c = true := h1'
    rw [swOf, h1'', ea, eb]
    refine Q19_L1_run N (fun i => c.2.1.length - 1 - i) (fun i => (c.2.1.length : Int) - 2 - (i : Nat)) (fun _ => c) (fun i => swRows c (i + 1)) (c.2.1.length - 1) (fun i hi kx => ?_) (fun kx => ?_) N (by omega)
    · rw [step i (by omega) kx, h2 (i + 1) (by omega)]; rfl
    · simp only [Q19_B1, ile_eq, show ¬ (0 : Int) ≤ (c.2.1.length : Int) - 2 - ((c.2.1.length - 1 : Nat) : Int) by omega, decide_false, cond_false, cond_true, show c.2.1.length - 1 + 1 = c.2.1.length by omega, swRows_all]
  · have h1'' : swOk c = false := h1'
    have hj0 : j ≠ 0 := fun e => by rw [e, hok0] at h5; cases h5
    obtain ⟨j, rfl⟩ : ∃ q, j = q + 1 := ⟨j - 1, by omega⟩
    rw [swOf, h1'', ea, eb]
    exact Q19_L1_run N (fun i => c.2.1.length - 1 - i) (fun i => (c.2.1.length : Int) - 2 - (i : Nat)) (fun _ => c) (fun i => swRows c (i + 1)) j (fun i hi kx => by rw [step i (by omega) kx, h4 (i + 1) (by omega)]; rfl) (fun kx => by rw [step j h2 kx, h5]; rfl) N (by omega)
noncomputable def stwOf (c : Ch) : Pl × Bool := bif chainB c then swOf c else ([], false)
theorem spec_StagewisePlan_eq {N : Nat} {c : Ch} (hs : SmCh c) (hN : 4194304 ≤ N) : Q46 N c = some (stwOf c, ()) := by
  simp only [Q46, spec_l7Good_eq hs hN, Option.bind_some, bif_not, stwOf]
  cases h : chainB c with
  | false => rfl
  | true =>
    have hc := chainP h
    have h3 := hc.s3
    simp only [cond_true, len_eq]
    rw [isub_in (by omega) (by omega), spec_Stagewise_loop hc hN]
theorem impl_StagewisePlan_eq {N : Nat} {c : Ch} (hs : SmCh c) (hN : 4194304 ≤ N) : Q19 N c = some (stwOf c, ()) := by
  simp only [Q19, impl_IsChain_eq hs hN, Option.bind_some, bif_not, stwOf]
  cases h : chainB c with
  | false => rfl
  | true =>
    have hc := chainP h
    have hn := hc.n
    have h3 := hc.s3
    have h1 := hc.s1
    have hl := hc.l
    have hok0 : okN (swN c 0) = true := okN_bd.2 hc.b0
    have hok1 : c.1.all (inRg 0 20) = true := hok0
    have ei : isub .i64 ((c.2.1.length : Nat) : Int) 1 = ((c.2.1.length - 1 - 0 : Nat) : Int) := by rw [isub_in (by omega) (by omega)]; omega
    have er : List.replicate c.2.1.length ([] : List Int) = swRows c 0 := gdl_ext (by simp [swRows_len]) fun s hs' => by
      simp only [List.length_replicate] at hs'
      rw [swRows_gd _ _ hs', if_neg (by omega)]
      simp [gd, List.getD_eq_getElem?_getD, hs']
    obtain ⟨g1, g2, _, _⟩ := sw_stage hc (j := 0) (by omega) hok0 hN
    have e0 : swN c 0 = c.1 := rfl
    have g1' : Q6 N (evenC c.1 (gd c.2.1 (c.2.1.length - 1 - 0) 0) (gd c.2.2 (c.2.1.length - 1 - 0) 0)) = _ := g1
    have g2' : Q9 N (evenC c.1 (gd c.2.1 (c.2.1.length - 1 - 0) 0) (gd c.2.2 (c.2.1.length - 1 - 0) 0)) (pns (swS c 0 (swN c 0)) (swN c 0).length) = _ := g2
    simp only [cond_true, len_eq, chk_of (mkB_in (n := c.2.1.length) (b := 24) (by omega) (by omega)), Int.toNat_natCast, List.length_replicate, ei, ile_eq, show (0 : Int) ≤ ((c.2.1.length - 1 - 0 : Nat) : Int) by omega, decide_true, impl_allWithin_eq hs.s0 hN, Option.bind_some, hok1, Bool.not_true, cond_false, inB_true (show c.2.1.length - 1 - 0 < c.2.1.length by omega), inB_true (show c.2.1.length - 1 - 0 < c.2.2.length by omega), chk_true', impl_evenCase_eq _ _ hn hN, g1', g2', er, swRows_len, List.length_set, swRows_set (show 0 < c.2.1.length by omega)]
    rw [isub_in (by omega) (by omega)]
    have hloop := impl_Stagewise_loop hc hN
    rw [show ((c.2.1.length - 1 - 0 : Nat) : Int) - 1 = (c.2.1.length : Int) - 2 by omega, Nat.sub_zero]
    exact hloop
theorem swN_row {c : Ch} (hc : ChainP c) {j : Nat} (hok : ∀ i, i < j → okN (swN c i) = true) : ∀ i, i ≤ j → (∀ k, k < c.1.length → 0 ≤ gd (swN c i) k 0) ∧ psum (swN c i) c.1.length = psum c.1 c.1.length
  | 0, _ => ⟨fun k hk => (hc.b0 k hk).1, rfl⟩
  | i + 1, hi => by
    obtain ⟨h1, h2⟩ := swN_row hc hok i (by omega)
    have hl := swN_len c i
    have hnn : ∀ k, k < (swN c i).length → 0 ≤ gd (swN c i) k 0 := fun k hk => h1 k (by omega)
    have hcv := swN_cov c i
    refine ⟨fun k hk => ?_, ?_⟩
    · simp only [swN]; exact planS_nn hnn (by omega)
    · have h3 := planS_psum hcv hnn (t := c.1.length) (by omega)
      simp only [swN]
      rw [h3, hl, nx_end]; exact h2
theorem gd_le_psum {xs : List Int} (h : ∀ k, k < xs.length → 0 ≤ gd xs k 0) {i : Nat} (hi : i < xs.length) : gd xs i 0 ≤ psum xs xs.length := by
  have h1 := psum_upto h (show i + 1 ≤ xs.length by omega) (Nat.le_refl _)
  have h2 := psum_upto h (show 0 ≤ i by omega) (show i ≤ xs.length by omega)
  rw [psum_succ hi] at h1
  rw [psum_zero] at h2
  omega
theorem sw_plan {c : Ch} (hc : ChainP c) (hok : swOk c = true) : chPlanB c (swTail c c.2.1.length) = true := by
  have hn := hc.n
  have hl := hc.l
  have h1 := hc.s1
  have hoks : ∀ i, i < c.2.1.length → okN (swN c i) = true := fun i hi => by
    unfold swOk at hok
    exact rangeB.1 hok i hi
  have hlen : (swTail c c.2.1.length).length = c.2.1.length := map_range_len _ _
  have hgd : ∀ s, s < c.2.1.length → gd (swTail c c.2.1.length) s [] = swN c (c.2.1.length - s) := fun s hs => gd_map_range _ [] hs
  have hrow : ∀ i, i ≤ c.2.1.length → rowOk c (swN c i) = true := fun i hi => by
    obtain ⟨g1, g2⟩ := swN_row hc hoks i hi
    have hll := swN_len c i
    have hb := psum_bd hc.b0 c.1.length (Nat.le_refl _)
    simp only [rowOk, Bool.and_eq_true, decide_eq_true_eq, bd_iff]
    refine ⟨hll, fun k hk => ⟨g1 k (by omega), ?_⟩⟩
    have h4 := gd_le_psum (fun k hk => g1 k (by omega)) hk
    rw [hll, g2] at h4
    omega
  have hnx : ∀ s, s < c.2.1.length → nxt c (swTail c c.2.1.length) s = swN c (c.2.1.length - (s + 1)) := fun s hs => by
    unfold nxt
    rw [hlen]
    by_cases e : s + 1 < c.2.1.length
    · rw [if_pos e, hgd _ e]
    · rw [if_neg e, show c.2.1.length - (s + 1) = 0 by omega]; rfl
  simp only [chPlanB, hlen, decide_true, Bool.true_and, rangeB]
  intro s hs
  have hj : c.2.1.length - (s + 1) < c.2.1.length := by omega
  have hbd := okN_bd.1 (hoks _ hj)
  have hll := swN_len c (c.2.1.length - (s + 1))
  have hst : ∀ t, t ≤ c.1.length → stS c (swTail c c.2.1.length) s t = stockAt (planS (swS c (c.2.1.length - (s + 1)) (swN c (c.2.1.length - (s + 1)))) (swN c (c.2.1.length - (s + 1)))) (swN c (c.2.1.length - (s + 1))) t := fun t _ => by
    simp only [stS, hnx s hs, hgd s hs]
    rw [show c.2.1.length - s = (c.2.1.length - (s + 1)) + 1 by omega]; rfl
  simp only [stageOk, Bool.and_eq_true, decide_eq_true_eq, nnS, rangeB]
  refine ⟨⟨by rw [hgd s hs]; exact hrow _ (by omega), by rw [hnx s hs]; exact hrow _ (by omega)⟩, fun t ht => ?_, ?_⟩
  · rw [hst _ (by omega)]
    exact (stock_even hbd (by omega) (by omega) (swN_cov c _) (by omega)).1
  · rw [hst _ (Nat.le_refl _)]
    simp only [stockAt, planS_psum (swN_cov c (c.2.1.length - (s + 1))) (fun i hi => (hbd i hi).1) (show c.1.length ≤ (swN c (c.2.1.length - (s + 1))).length by omega)]
    rw [hll, nx_end]; omega
def riseAt (n : Nat) (l : List Int) (i : Nat) : Bool := inRg 0 ((n : Int) - 1) (gd l i 0) && (decide (i = 0) || decide (gd l (i - 1) 0 < gd l i 0))
def riseB (n : Nat) (l : List Int) : Bool := (List.range l.length).all (riseAt n l)
theorem riseAt_iff {n : Nat} {l : List Int} {i : Nat} : riseAt n l i = true ↔ (0 ≤ gd l i 0 ∧ gd l i 0 ≤ (n : Int) - 1) ∧ (i = 0 ∨ gd l (i - 1) 0 < gd l i 0) := by
  simp only [riseAt, inRg, Bool.and_eq_true, Bool.or_eq_true, decide_eq_true_eq]
theorem mem_gd {l : List Int} {v : Int} : (∃ i, i < l.length ∧ gd l i 0 = v) ↔ v ∈ l := by
  rw [List.mem_iff_getElem]
  constructor
  · rintro ⟨i, h1, h2⟩; exact ⟨i, h1, by rw [← h2]; simp [gd, List.getD_eq_getElem?_getD, h1]⟩
  · rintro ⟨i, h1, h2⟩; exact ⟨i, h1, by rw [← h2]; simp [gd, List.getD_eq_getElem?_getD, h1]⟩
theorem rise_lt {n : Nat} {l : List Int} (h : riseB n l = true) : ∀ d i, i + d + 1 < l.length → gd l i 0 < gd l (i + d + 1) 0
  | 0, i, hi => by
    rcases (riseAt_iff.1 (rangeB.1 h (i + 1) hi)).2 with g | g
    · omega
    · exact g
  | d + 1, i, hi => by
    have h1 := rise_lt h d i (by omega)
    rcases (riseAt_iff.1 (rangeB.1 h (i + d + 1 + 1) hi)).2 with g | g
    · omega
    · rw [Nat.add_sub_cancel] at g; rw [show i + (d + 1) + 1 = i + d + 1 + 1 by omega]; omega
theorem gd_left {l m : List Int} {i : Nat} (h : i < l.length) : gd (l ++ m) i 0 = gd l i 0 := by
  simp only [gd, List.getD_eq_getElem?_getD]; rw [List.getElem?_append_left h]
theorem rise_front {n m : Nat} {l : List Int} {a : Int} (h : riseB n (l ++ [a]) = true) (hm : ∀ i, i < l.length → gd l i 0 ≤ (m : Int) - 1) : riseB m l = true := rangeB.2 fun i hi => by
  obtain ⟨h1, h2⟩ := riseAt_iff.1 (rangeB.1 h i (by simp; omega))
  rw [gd_left hi] at h1 h2
  rw [gd_left (show i - 1 < l.length by omega)] at h2
  exact riseAt_iff.2 ⟨⟨h1.1, hm i hi⟩, h2⟩
theorem rise_ex : ∀ (n : Nat) (l : List Int), riseB n l = true → ∃ S, l = pns S n
  | 0, l, h => by
    cases l with
    | nil => exact ⟨fun _ => false, rfl⟩
    | cons a l =>
      have := (riseAt_iff.1 (rangeB.1 h 0 (by simp))).1
      omega
  | n + 1, l, h => by
    rcases List.eq_nil_or_concat l with rfl | ⟨l', a, rfl⟩
    · obtain ⟨S, hS⟩ := rise_ex n [] (by simp [riseB])
      refine ⟨fun p => S p && decide (p < n), ?_⟩
      rw [pns_succ]
      have : pns (fun p => S p && decide (p < n)) n = pns S n := by
        simp only [pns]; congr 1; apply List.filter_congr; intro p hp; rw [List.mem_range] at hp; simp [hp]
      rw [this, ← hS]; simp
    · rw [List.concat_eq_append] at h ⊢
      have hlast : gd (l' ++ [a]) l'.length 0 = a := by simp [gd, List.getD_eq_getElem?_getD]
      have ha := (riseAt_iff.1 (rangeB.1 h l'.length (by simp))).1
      rw [hlast] at ha
      have hlt : ∀ i, i < l'.length → gd l' i 0 < a := fun i hi => by
        have := rise_lt h (l'.length - i - 1) i (by simp; omega)
        rw [show i + (l'.length - i - 1) + 1 = l'.length by omega, hlast, gd_left hi] at this
        exact this
      by_cases e : a = (n : Int)
      · obtain ⟨S, hS⟩ := rise_ex n l' (rise_front h fun i hi => by have := hlt i hi; omega)
        refine ⟨fun p => S p && decide (p < n) || decide (p = n), ?_⟩
        rw [pns_succ]
        have : pns (fun p => S p && decide (p < n) || decide (p = n)) n = pns S n := by
          simp only [pns]; congr 1; apply List.filter_congr; intro p hp; rw [List.mem_range] at hp; simp [hp, show p ≠ n by omega]
        rw [this, ← hS, e]; simp
      · have hr : riseB n (l' ++ [a]) = true := rangeB.2 fun i hi => by
          obtain ⟨h1, h2⟩ := riseAt_iff.1 (rangeB.1 h i hi)
          refine riseAt_iff.2 ⟨⟨h1.1, ?_⟩, h2⟩
          by_cases e2 : i = l'.length
          · subst e2; rw [hlast]; omega
          · have hi2 : i < l'.length := by simp at hi; omega
            have := hlt i hi2
            rw [gd_left hi2]; omega
        obtain ⟨S, hS⟩ := rise_ex n _ hr
        refine ⟨fun p => S p && decide (p < n), ?_⟩
        rw [pns_succ]
        have : pns (fun p => S p && decide (p < n)) n = pns S n := by
          simp only [pns]; congr 1; apply List.filter_congr; intro p hp; rw [List.mem_range] at hp; simp [hp]
        rw [this, ← hS]; simp
def memS (l : List Int) (p : Nat) : Bool := decide ((p : Int) ∈ l)
theorem rise_pns {n : Nat} {l : List Int} (h : riseB n l = true) : l = pns (memS l) n := by
  obtain ⟨S, hS⟩ := rise_ex n l h
  have : pns (memS l) n = pns S n := by
    simp only [pns]; congr 1; apply List.filter_congr; intro p hp; rw [List.mem_range] at hp
    rw [Bool.eq_iff_iff]
    simp only [memS, decide_eq_true_eq]
    rw [← mem_gd]
    rw [hS]
    rw [has_pns]
    exact ⟨fun h => h.2, fun h => ⟨hp, h⟩⟩
  rw [this]; exact hS
def subR (a b : List Int) : Bool := (List.range a.length).all fun i => decide (gd a i 0 ∈ b)
theorem spec_l1Rising_eq {N n : Nat} {l : List Int} (hl : l.length < 4194304) (hN : 4194304 ≤ N) : Q52 N l 0 ((n : Int) - 1) = some (riseB n l, ()) := by
  have step : ∀ i, i < l.length → ∀ kx, Q52_B1 N kx l 0 ((n : Int) - 1) (i : Nat) = bif riseAt n l i then kx l 0 ((n : Int) - 1) ((i + 1 : Nat) : Int) else some (false, ()) := fun i hi kx => by
    simp only [Q52_B1, ilt_eq, len_eq, Int.ofNat_lt, hi, decide_true, cond_true, inB_true hi, chk_true', Int.toNat_natCast, spec_l1In_eq, Option.bind_some, bif_not, iadd_nat (show i < 4611686018427387904 by omega), riseAt]
    cases hr : inRg 0 ((n : Int) - 1) (gd l i 0) with
    | false => rfl
    | true =>
      by_cases h0 : (0 : Int) < (i : Int)
      · obtain ⟨j, rfl⟩ : ∃ j, i = j + 1 := ⟨i - 1, by omega⟩
        have e : isub .i64 ((j + 1 : Nat) : Int) 1 = (j : Int) := by rw [isub_in (by omega) (by omega)]; omega
        simp only [h0, decide_true, cond_true, e, inB_true (show j < l.length by omega), chk_true', Int.toNat_natCast, ile_eq, Bool.true_and, Nat.add_sub_cancel, show ¬ j + 1 = 0 by omega, decide_false, Bool.false_or]
        by_cases q : gd l (j + 1) 0 ≤ gd l j 0
        · simp only [q, decide_true, cond_true, show ¬ gd l j 0 < gd l (j + 1) 0 by omega, decide_false, cond_false]
        · simp only [q, decide_false, cond_false, show gd l j 0 < gd l (j + 1) 0 by omega, decide_true, cond_true]
      · have : i = 0 := by omega
        subst this
        simp
  rcases range_cases (riseAt n l) l.length with ⟨h1, h2⟩ | ⟨h1, j, h2, h4, h5⟩
  · rw [show riseB n l = true from h1]
    refine Q52_L1_run N (fun _ => l) (fun _ => 0) (fun _ => (n : Int) - 1) (fun i => (i : Int)) l.length (fun i hi kx => by rw [step i hi, h2 i hi]; rfl) (fun kx => ?_) N (by omega)
    simp only [Q52_B1, Q52_K1, ilt_eq, len_eq, Int.lt_irrefl, decide_false, cond_false]
  · rw [show riseB n l = false from h1]
    exact Q52_L1_run N (fun _ => l) (fun _ => 0) (fun _ => (n : Int) - 1) (fun i => (i : Int)) j (fun i hi kx => by rw [step i (by omega), h4 i hi]; rfl) (fun kx => by rw [step j h2, h5]; rfl) N (by omega)
theorem impl_Case_arePeriods_eq {N : Nat} {c : Cs} {l : List Int} (hn : c.1.length < 1000) (hl : l.length < 4194304) (hN : 4194304 ≤ N) : Q5 N c l = some (riseB c.1.length l, ()) := by
  have e1 : isub .i64 (len c.1) 1 = (c.1.length : Int) - 1 := by rw [len_eq, isub_in (by omega) (by omega)]
  have step : ∀ i, i < l.length → ∀ kx, Q5_B1 N kx l l (l.length : Int) (i : Nat) c = bif riseAt c.1.length l i then kx l l (l.length : Int) ((i + 1 : Nat) : Int) c else some (false, ()) := fun i hi kx => by
    simp only [Q5_B1, ilt_eq, Int.ofNat_lt, hi, decide_true, cond_true, inB_true hi, chk_true', Int.toNat_natCast, impl_within_eq, e1, Option.bind_some, bif_not, iadd_nat (show i < 4611686018427387904 by omega), riseAt]
    cases hr : inRg 0 ((c.1.length : Int) - 1) (gd l i 0) with
    | false => rfl
    | true =>
      by_cases h0 : (0 : Int) < (i : Int)
      · obtain ⟨j, rfl⟩ : ∃ j, i = j + 1 := ⟨i - 1, by omega⟩
        have e : isub .i64 ((j + 1 : Nat) : Int) 1 = (j : Int) := by rw [isub_in (by omega) (by omega)]; omega
        simp only [h0, decide_true, cond_true, e, inB_true (show j < l.length by omega), chk_true', Int.toNat_natCast, ile_eq, Bool.true_and, Nat.add_sub_cancel, show ¬ j + 1 = 0 by omega, decide_false, Bool.false_or]
        by_cases q : gd l (j + 1) 0 ≤ gd l j 0
        · simp only [q, decide_true, cond_true, show ¬ gd l j 0 < gd l (j + 1) 0 by omega, decide_false, cond_false]
        · simp only [q, decide_false, cond_false, show gd l j 0 < gd l (j + 1) 0 by omega, decide_true, cond_true]
      · have : i = 0 := by omega
        subst this
        simp
  simp only [Q5, len_eq]
  rcases range_cases (riseAt c.1.length l) l.length with ⟨h1, h2⟩ | ⟨h1, j, h2, h4, h5⟩
  · rw [show riseB c.1.length l = true from h1]
    refine Q5_L1_run N (fun _ => l) (fun _ => l) (fun _ => (l.length : Int)) (fun i => (i : Int)) (fun _ => c) l.length (fun i hi kx => by rw [step i hi, h2 i hi]; rfl) (fun kx => ?_) N (by omega)
    simp only [Q5_B1, Q5_K1, ilt_eq, Int.lt_irrefl, decide_false, cond_false]
  · rw [show riseB c.1.length l = false from h1]
    exact Q5_L1_run N (fun _ => l) (fun _ => l) (fun _ => (l.length : Int)) (fun i => (i : Int)) (fun _ => c) j (fun i hi kx => by rw [step i (by omega), h4 i hi]; rfl) (fun kx => by rw [step j h2, h5]; rfl) N (by omega)
theorem spec_l7Within_eq {N : Nat} {a b : List Int} (ha : a.length < 4194304) (hb : b.length < 4194304) (hN : 4194304 ≤ N) : Q77 N a b = some (subR a b, ()) := by
  have step : ∀ i, i < a.length → ∀ kx, Q77_B1 N kx a b (i : Nat) = bif decide (gd a i 0 ∈ b) then kx a b ((i + 1 : Nat) : Int) else some (false, ()) := fun i hi kx => by
    simp only [Q77_B1, ilt_eq, len_eq, Int.ofNat_lt, hi, decide_true, cond_true, inB_true hi, chk_true', Int.toNat_natCast, spec_l1Has_eq _ hb hN, Option.bind_some, bif_not, iadd_nat (show i < 4611686018427387904 by omega), mem_gd]
  rcases range_cases (fun i => decide (gd a i 0 ∈ b)) a.length with ⟨h1, h2⟩ | ⟨h1, j, h2, h4, h5⟩
  · rw [show subR a b = true from h1]
    refine Q77_L1_run N (fun _ => a) (fun _ => b) (fun i => (i : Int)) a.length (fun i hi kx => by rw [step i hi, h2 i hi]; rfl) (fun kx => ?_) N (by omega)
    simp only [Q77_B1, Q77_K1, ilt_eq, len_eq, Int.lt_irrefl, decide_false, cond_false]
  · rw [show subR a b = false from h1]
    exact Q77_L1_run N (fun _ => a) (fun _ => b) (fun i => (i : Int)) j (fun i hi kx => by rw [step i (by omega), h4 i hi]; rfl) (fun kx => by rw [step j h2, h5]; rfl) N (by omega)
def perAt (n : Nat) (P : Pl) (s : Nat) : Bool := riseB n (gd P s []) && (decide (s = 0) || subR (gd P (s - 1) []) (gd P s []))
def perAll (n : Nat) (P : Pl) : Bool := (List.range P.length).all (perAt n P)
theorem spec_l7Periods_eq {N : Nat} {c : Ch} {P : Pl} (hn : c.1.length < 1000) (hP : SmPl P) (hN : 4194304 ≤ N) : Q73 N c P = some (perAll c.1.length P && decide (P.length = c.2.1.length), ()) := by
  have hl := hP.l
  have e1 : isub .i64 ((c.1.length : Nat) : Int) 1 = (c.1.length : Int) - 1 := isub_in (by omega) (by omega)
  have step : ∀ s, s < P.length → ∀ kx, Q73_B1 N kx P (s : Nat) c = bif perAt c.1.length P s then kx P ((s + 1 : Nat) : Int) c else some (false, ()) := fun s hs kx => by
    simp only [Q73_B1, ilt_eq, len_eq, Int.ofNat_lt, hs, decide_true, cond_true, inB_true hs, chk_true', Int.toNat_natCast, e1, spec_l1Rising_eq (n := c.1.length) (hP.r s hs) hN, Option.bind_some, bif_not, iadd_nat (show s < 4611686018427387904 by omega), perAt]
    cases hr : riseB c.1.length (gd P s []) with
    | false => rfl
    | true =>
      by_cases h0 : (0 : Int) < (s : Int)
      · obtain ⟨j, rfl⟩ : ∃ j, s = j + 1 := ⟨s - 1, by omega⟩
        have e : isub .i64 ((j + 1 : Nat) : Int) 1 = (j : Int) := by rw [isub_in (by omega) (by omega)]; omega
        simp only [h0, decide_true, cond_true, e, inB_true (show j < P.length by omega), chk_true', Int.toNat_natCast, spec_l7Within_eq (hP.r j (by omega)) (hP.r (j + 1) hs) hN, Option.bind_some, Bool.true_and, Nat.add_sub_cancel, show ¬ j + 1 = 0 by omega, decide_false, Bool.false_or]
      · have : s = 0 := by omega
        subst this
        simp
  rcases range_cases (perAt c.1.length P) P.length with ⟨h1, h2⟩ | ⟨h1, j, h2, h4, h5⟩
  · rw [show perAll c.1.length P = true from h1, Bool.true_and]
    refine Q73_L1_run N (fun _ => P) (fun s => (s : Int)) (fun _ => c) P.length (fun s hs kx => by rw [step s hs, h2 s hs]; rfl) (fun kx => ?_) N (by omega)
    simp only [Q73_B1, Q73_K1, ilt_eq, len_eq, Int.lt_irrefl, decide_false, cond_false, ieq_eq, Int.ofNat_inj]
  · rw [show perAll c.1.length P = false from h1, Bool.false_and]
    exact Q73_L1_run N (fun _ => P) (fun s => (s : Int)) (fun _ => c) j (fun s hs kx => by rw [step s (by omega), h4 s hs]; rfl) (fun kx => by rw [step j h2, h5]; rfl) N (by omega)
def rowsA (P : Pl) (s p : Nat) : Bool := memS (gd P s []) p
theorem per_fam {n : Nat} {P : Pl} (h : perAll n P = true) : P = famL (rowsA P) P.length n ∧ NestedA (rowsA P) n P.length := by
  have hr : ∀ s, s < P.length → riseB n (gd P s []) = true := fun s hs => by
    have := rangeB.1 h s hs; simp only [perAt, Bool.and_eq_true] at this; exact this.1
  refine ⟨gdl_ext (by rw [famL_len]) fun s hs => by rw [famL_gd _ _ _ hs]; exact rise_pns (hr s hs), fun s hs p hp hA => ?_⟩
  have h2 := rangeB.1 h (s + 1) hs
  simp only [perAt, Bool.and_eq_true, Bool.or_eq_true, decide_eq_true_eq, Nat.add_sub_cancel] at h2
  have h3 : subR (gd P s []) (gd P (s + 1) []) = true := h2.2.resolve_left (by omega)
  simp only [rowsA, memS, decide_eq_true_eq] at hA ⊢
  obtain ⟨i, g1, g2⟩ := mem_gd.2 hA
  have := rangeB.1 h3 i g1
  rw [g2] at this
  exact of_decide_eq_true this
def nestOf (c : Ch) (P : Pl) : Pl × Bool := bif chainB c && (decide (P.length = c.2.1.length) && (perAll c.1.length P && covAll c (rowsA P))) then (nestPlan c (rowsA P), true) else ([], false)
theorem spec_NestedPlan_eq {N : Nat} {c : Ch} {P : Pl} (hs : SmCh c) (hP : SmPl P) (hN : 4194304 ≤ N) : Q45 N c P = some (nestOf c P, ()) := by
  cases hcb : chainB c with
  | false => simp only [Q45, spec_l7Good_eq hs hN, hcb, Option.bind_some, Bool.not_false, cond_true, nestOf, Bool.false_and, cond_false]
  | true =>
    have hc := chainP hcb
    have hn := hc.n
    cases hl : decide (P.length = c.2.1.length) with
    | false => simp only [Q45, spec_l7Good_eq hs hN, hcb, Option.bind_some, Bool.not_true, cond_false, spec_l7Periods_eq (show c.1.length < 1000 by omega) hP hN, hl, Bool.and_false, Bool.not_false, cond_true, nestOf, Bool.false_and]
    | true =>
      cases hp : perAll c.1.length P with
      | false => simp only [Q45, spec_l7Good_eq hs hN, hcb, Option.bind_some, Bool.not_true, cond_false, spec_l7Periods_eq (show c.1.length < 1000 by omega) hP hN, hl, hp, Bool.and_true, Bool.not_false, cond_true, nestOf, Bool.false_and, Bool.and_false]
      | true =>
        obtain ⟨h1, h2⟩ := per_fam hp
        have hl' := of_decide_eq_true hl
        rw [hl'] at h1 h2
        have := spec_NestedPlan_nested hc hcb hs h2 hN
        rw [← h1] at this
        rw [this]
        simp only [nestOf, hcb, hl, hp, Bool.true_and]
theorem impl_NestedPlan_in {N : Nat} {c : Ch} {P : Pl} (kx : Pl → Pl → Int → Int → Ch → Option ((Pl × Bool) × Unit)) (a l : List Int) (s : Nat) (hs : s < 4194304) (ha : a.length < 4194304) (hl : l.length < 4194304) (hN : 4194304 ≤ N) :
    Q18_L1 N N kx P l P (P.length : Int) (s : Nat) a (a.length : Int) 0 c = bif subR a l then kx P P (P.length : Int) ((s + 1 : Nat) : Int) c else some (([], false), ()) := by
  have step : ∀ i, i < a.length → ∀ kx1, Q18_B1 N kx kx1 P l P (P.length : Int) (s : Nat) a (a.length : Int) (i : Nat) c = bif decide (gd a i 0 ∈ l) then kx1 P l P (P.length : Int) (s : Nat) a (a.length : Int) ((i + 1 : Nat) : Int) c else some (([], false), ()) := fun i hi kx1 => by
    simp only [Q18_B1, ilt_eq, Int.ofNat_lt, hi, decide_true, cond_true, inB_true hi, chk_true', Int.toNat_natCast, slices_Contains_eq hl hN, Option.bind_some, bif_not, iadd_nat (show i < 4611686018427387904 by omega)]
  rcases range_cases (fun i => decide (gd a i 0 ∈ l)) a.length with ⟨h1, h2⟩ | ⟨h1, j, h2, h4, h5⟩
  · rw [show subR a l = true from h1]
    refine Q18_L1_run N kx (fun _ => P) (fun _ => l) (fun _ => P) (fun _ => (P.length : Int)) (fun _ => (s : Int)) (fun _ => a) (fun _ => (a.length : Int)) (fun i => (i : Int)) (fun _ => c) a.length (fun i hi kx1 => by rw [step i hi, h2 i hi]; rfl) (fun kx1 => ?_) N (by omega)
    simp only [Q18_B1, Q18_K1, ilt_eq, Int.lt_irrefl, decide_false, cond_false, cond_true, iadd_nat (show s < 4611686018427387904 by omega)]
  · rw [show subR a l = false from h1]
    exact Q18_L1_run N kx (fun _ => P) (fun _ => l) (fun _ => P) (fun _ => (P.length : Int)) (fun _ => (s : Int)) (fun _ => a) (fun _ => (a.length : Int)) (fun i => (i : Int)) (fun _ => c) j (fun i hi kx1 => by rw [step i (by omega), h4 i hi]; rfl) (fun kx1 => by rw [step j h2, h5]; rfl) N (by omega)
theorem impl_NestedPlan_eq {N : Nat} {c : Ch} {P : Pl} (hs : SmCh c) (hP : SmPl P) (hN : 4194304 ≤ N) : Q18 N c P = some (nestOf c P, ()) := by
  simp only [Q18, impl_IsChain_eq hs hN, Option.bind_some, bif_not, ine_eq, len_eq, lenP_dec]
  cases hcb : chainB c with
  | false => simp only [cond_false, nestOf, hcb, Bool.false_and]
  | true =>
    have hc := chainP hcb
    have hn := hc.n
    cases hl : decide (P.length = c.2.1.length) with
    | false => simp only [cond_true, cond_false, nestOf, hcb, hl, Bool.false_and, Bool.and_false]
    | true =>
      have hl' := of_decide_eq_true hl
      simp only [cond_true, nestOf, hcb, hl, Bool.true_and]
      have step : ∀ s, s < P.length → ∀ kx, Q18_B2 N kx P P (P.length : Int) (s : Nat) c = bif perAt c.1.length P s then kx P P (P.length : Int) ((s + 1 : Nat) : Int) c else some (([], false), ()) := fun s hs' kx => by
        have hlP := hP.l
        have e1 : (evenC c.1 0 0).1 = c.1 := rfl
        have ha := impl_Case_arePeriods_eq (N := N) (c := evenC c.1 0 0) (l := gd P s []) (by rw [e1]; omega) (hP.r s hs') hN
        rw [e1] at ha
        simp only [Q18_B2, ilt_eq, Int.ofNat_lt, hs', decide_true, cond_true, inB_true hs', chk_true', Int.toNat_natCast, impl_evenCase_eq 0 0 hn hN, Option.bind_some, ha, bif_not, perAt]
        cases hr : riseB c.1.length (gd P s []) with
        | false => rfl
        | true =>
          by_cases h0 : (0 : Int) < (s : Int)
          · obtain ⟨j, rfl⟩ : ∃ j, s = j + 1 := ⟨s - 1, by omega⟩
            have e : isub .i64 ((j + 1 : Nat) : Int) 1 = (j : Int) := by rw [isub_in (by omega) (by omega)]; omega
            simp only [h0, decide_true, cond_true, e, inB_true (show j < P.length by omega), chk_true', Int.toNat_natCast, len_eq, impl_NestedPlan_in kx (gd P j []) (gd P (j + 1) []) (j + 1) (by omega) (hP.r j (by omega)) (hP.r (j + 1) hs') hN, Bool.true_and, Nat.add_sub_cancel, show ¬ j + 1 = 0 by omega, decide_false, Bool.false_or]
          · have : s = 0 := by omega
            subst this
            have e : iadd .i64 (0 : Int) 1 = 1 := iadd_nat (show 0 < 4611686018427387904 by omega)
            simp [e]
      have hlP := hP.l
      rcases range_cases (perAt c.1.length P) P.length with ⟨h1, h2⟩ | ⟨h1, j, h2, h4, h5⟩
      · have h1' : perAll c.1.length P = true := h1
        obtain ⟨g1, g2⟩ := per_fam h1'
        rw [hl'] at g1 g2
        have hne := impl_Chain_nested_eq hc (rowsA P) hN
        rw [← g1] at hne
        rw [h1', Bool.true_and]
        refine Q18_L2_run N (fun _ => P) (fun _ => P) (fun _ => (P.length : Int)) (fun s => (s : Int)) (fun _ => c) P.length (fun s hs' kx => by rw [step s hs', h2 s hs']; rfl) (fun kx => ?_) N (by omega)
        simp only [Q18_B2, Q18_K2, ilt_eq, Int.lt_irrefl, decide_false, cond_false, hne, Option.bind_some]
      · have h1' : perAll c.1.length P = false := h1
        rw [h1', Bool.false_and, cond_false]
        exact Q18_L2_run N (fun _ => P) (fun _ => P) (fun _ => (P.length : Int)) (fun s => (s : Int)) (fun _ => c) j (fun s hs' kx => by rw [step s (by omega), h4 s hs']; rfl) (fun kx => by rw [step j h2, h5]; rfl) N (by omega)
theorem l1Put_ok {N : Nat} {l : List Int} (v : Int) (hl : l.length < 1000) (hN : 4194304 ≤ N) : ∃ l', Q51 N l v = some (l', ()) ∧ l'.length ≤ l.length + 1 := by
  have step : ∀ i, i < l.length → gd l i 0 < v → ∀ kx, Q51_B1 N kx v (i : Nat) l = kx v ((i + 1 : Nat) : Int) l := fun i hi hv kx => by
    simp only [Q51_B1, ilt_eq, len_eq, Int.ofNat_lt, hi, decide_true, cond_true, inB_true hi, chk_true', Int.toNat_natCast, hv, iadd_nat (show i < 4611686018427387904 by omega)]
  have hk : ∀ j, j ≤ l.length → ∃ l', Q51_K1 N v (j : Nat) l = some (l', ()) ∧ l'.length ≤ l.length + 1 := fun j hj => by
    have g1 : (List.take (((j : Nat) : Int).toNat - 0) (List.drop 0 l)).length = j := by simp; omega
    have g2 : (List.take ((len l).toNat - ((j : Nat) : Int).toNat) (List.drop ((j : Nat) : Int).toNat l)).length = l.length - j := by simp [len_eq]
    have c1 : cutB 0 ((j : Nat) : Int) l.length = true := cutB_in (by omega) (by omega) (by omega)
    have c2 : cutB ((j : Nat) : Int) (len l) l.length = true := cutB_in (by omega) (by rw [len_eq]; omega) (by rw [len_eq]; exact Int.le_refl _)
    have hend : ∃ l', (chk (cutB 0 ((j : Nat) : Int) l.length) <| chk (fitB (0 + (List.take (((j : Nat) : Int).toNat - 0) (List.drop 0 l)).length) 8) <| chk (fitB ((List.take (((j : Nat) : Int).toNat - 0) (List.drop 0 l)).length + 1) 8) <| chk (cutB ((j : Nat) : Int) (len l) l.length) <|
        chk (fitB (((List.take (((j : Nat) : Int).toNat - 0) (List.drop 0 l)) ++ [v]).length + (List.take ((len l).toNat - ((j : Nat) : Int).toNat) (List.drop ((j : Nat) : Int).toNat l)).length) 8) <|
        some (((List.take (((j : Nat) : Int).toNat - 0) (List.drop 0 l)) ++ [v]) ++ (List.take ((len l).toNat - ((j : Nat) : Int).toNat) (List.drop ((j : Nat) : Int).toNat l)), ())) = some (l', ()) ∧ l'.length ≤ l.length + 1 := by
      rw [c1, c2]
      simp only [chk_true']
      rw [chk_of (fitB_in (by rw [g1]; omega) (by omega)), chk_of (fitB_in (by rw [g1]; omega) (by omega)), chk_of (fitB_in (by rw [List.length_append, g1, g2]; simp; omega) (by omega))]
      exact ⟨_, rfl, by rw [List.length_append, List.length_append, g1, g2]; simp; omega⟩
    simp only [Q51_K1]
    by_cases hj2 : ((j : Nat) : Int) < len l
    · have hj3 : j < l.length := by rw [len_eq] at hj2; omega
      simp only [ilt_eq, hj2, decide_true, cond_true, inB_true hj3, chk_true', ieq_eq]
      by_cases e : gd l ((j : Nat) : Int).toNat 0 = v
      · simp only [e, decide_true, cond_true]; exact ⟨l, rfl, by omega⟩
      · simp only [e, decide_false, cond_false]; exact hend
    · simp only [ilt_eq, hj2, decide_false, cond_false]; exact hend
  rcases first_cases (fun i => decide (gd l i 0 < v)) l.length with h | ⟨j, hj, hb, hat⟩
  · obtain ⟨l', e1, e2⟩ := hk l.length (Nat.le_refl _)
    refine ⟨l', ?_, e2⟩
    refine Q51_L1_run N (fun _ => v) (fun i => (i : Int)) (fun _ => l) l.length (fun i hi kx => step i hi (of_decide_eq_true (h i hi)) kx) (fun kx => ?_) N (by omega)
    simp only [Q51_B1, ilt_eq, len_eq, Int.lt_irrefl, decide_false, cond_false]
    exact e1
  · obtain ⟨l', e1, e2⟩ := hk j (by omega)
    refine ⟨l', ?_, e2⟩
    refine Q51_L1_run N (fun _ => v) (fun i => (i : Int)) (fun _ => l) j (fun i hi kx => step i (by omega) (of_decide_eq_true (hb i hi)) kx) (fun kx => ?_) N (by omega)
    simp only [Q51_B1, ilt_eq, len_eq, Int.ofNat_lt, hj, decide_true, cond_true, inB_true hj, chk_true', Int.toNat_natCast, of_decide_eq_false hat, decide_false, cond_false]
    exact e1
theorem p7_fewer {N : Nat} {c : Ch} (s : Int) (last : List Int) (out : Pl) (hl : last.length ≤ 100) : ∀ d i, i + d = last.length → ∀ (k : Nat) (cu : Cu) (fewer : List Int), fewer.length ≤ i → Bud cu (k + 4 * d) →
    ∃ fewer' cu', (∀ (kx4 : Int → Cu → Ch → List Int → Pl → Option (Pl × Cu)) m, d < m → Q35_L1 N m kx4 0 s (i : Int) cu c ([last] ++ out) fewer = kx4 (iadd .i64 s 1) cu' c fewer' ([last] ++ out)) ∧ Bud cu' k ∧ fewer'.length ≤ last.length := by
  have e0 : gd ([last] ++ out) 0 [] = last := rfl
  intro d
  induction d with
  | zero =>
    intro i hi k cu fewer hf h
    refine ⟨fewer, cu, fun kx4 m hm => ?_, h, by omega⟩
    obtain ⟨m, rfl⟩ : ∃ q, m = q + 1 := ⟨m - 1, by omega⟩
    rw [Q35_L1_succ]
    simp only [Q35_B1, e0, ilt_eq, len_eq, Int.ofNat_lt, show ¬ i < last.length by omega, decide_false, cond_false, Q35_K1]
  | succ d ih =>
    intro i hi k cu fewer hf h
    have hi' : i < last.length := by omega
    have hfit : fitB (fewer.length + 1) 8 = true := fitB_in (by omega) (by omega)
    by_cases h0 : i = 0
    · obtain ⟨b, c1, e1, b1⟩ := one_ok (N := N) 16 (h.mono (show k + 4 * d + 2 ≤ k + 4 * (d + 1) by omega))
      cases b with
      | false =>
        obtain ⟨f', c', o1, o2⟩ := ih (i + 1) (by omega) k c1 (fewer ++ [gd last i 0]) (by simp; omega) b1
        refine ⟨f', c', fun kx4 m hm => ?_, o2⟩
        obtain ⟨m, rfl⟩ : ∃ q, m = q + 1 := ⟨m - 1, by omega⟩
        rw [Q35_L1_succ]
        simp only [Q35_B1, e0, ilt_eq, len_eq, show (i : Int) = 0 by omega, show (0 : Int) < last.length by omega, decide_true, cond_true, ieq_eq, e1, Option.bind_some, Bool.not_false, show inB (0 : Int) last.length = true from inB_in (by omega) (by omega), chk_true', hfit, show (0 : Int).toNat = i by omega]
        have := o1 kx4 m (by omega)
        rw [show (iadd .i64 (0 : Int) 1) = ((i + 1 : Nat) : Int) by rw [h0]; exact iadd_nat (show 0 < 4611686018427387904 by omega)]
        exact this
      | true =>
        obtain ⟨f', c', o1, o2⟩ := ih (i + 1) (by omega) k c1 fewer (by omega) b1
        refine ⟨f', c', fun kx4 m hm => ?_, o2⟩
        obtain ⟨m, rfl⟩ : ∃ q, m = q + 1 := ⟨m - 1, by omega⟩
        rw [Q35_L1_succ]
        simp only [Q35_B1, e0, ilt_eq, len_eq, show (i : Int) = 0 by omega, show (0 : Int) < last.length by omega, decide_true, cond_true, ieq_eq, e1, Option.bind_some, Bool.not_true, cond_false, Int.lt_irrefl, decide_false]
        have := o1 kx4 m (by omega)
        rw [show (iadd .i64 (0 : Int) 1) = ((i + 1 : Nat) : Int) by rw [h0]; exact iadd_nat (show 0 < 4611686018427387904 by omega)]
        exact this
    · obtain ⟨b, c1, e1, b1⟩ := one_ok (N := N) 2 (h.mono (show k + 4 * d + 2 ≤ k + 4 * (d + 1) by omega))
      cases b with
      | true =>
        obtain ⟨f', c', o1, o2⟩ := ih (i + 1) (by omega) k c1 (fewer ++ [gd last i 0]) (by simp; omega) b1
        refine ⟨f', c', fun kx4 m hm => ?_, o2⟩
        obtain ⟨m, rfl⟩ : ∃ q, m = q + 1 := ⟨m - 1, by omega⟩
        rw [Q35_L1_succ]
        simp only [Q35_B1, e0, ilt_eq, len_eq, Int.ofNat_lt, hi', decide_true, cond_true, ieq_eq, show ¬ (i : Int) = 0 by omega, decide_false, cond_false, show (0 : Int) < i by omega, e1, Option.bind_some, inB_true hi', chk_true', hfit, Int.toNat_natCast, iadd_nat (show i < 4611686018427387904 by omega)]
        exact o1 kx4 m (by omega)
      | false =>
        obtain ⟨f', c', o1, o2⟩ := ih (i + 1) (by omega) k c1 fewer (by omega) b1
        refine ⟨f', c', fun kx4 m hm => ?_, o2⟩
        obtain ⟨m, rfl⟩ : ∃ q, m = q + 1 := ⟨m - 1, by omega⟩
        rw [Q35_L1_succ]
        simp only [Q35_B1, e0, ilt_eq, len_eq, Int.ofNat_lt, hi', decide_true, cond_true, ieq_eq, show ¬ (i : Int) = 0 by omega, decide_false, cond_false, show (0 : Int) < i by omega, e1, Option.bind_some, iadd_nat (show i < 4611686018427387904 by omega)]
        exact o1 kx4 m (by omega)
structure PerLen (P : Pl) (n : Nat) : Prop where
  l : P.length ≤ n
  r : ∀ s, s < P.length → (gd P s []).length ≤ 16
theorem PerLen.sm {P : Pl} {n : Nat} (h : PerLen P n) (hn : n ≤ 1000) : SmPl P := ⟨by have := h.l; omega, fun s hs => by have := h.r s hs; omega⟩
theorem PerLen.cons {P : Pl} {n : Nat} {l : List Int} (h : PerLen P n) (hl : l.length ≤ 16) : PerLen ([l] ++ P) (n + 1) := ⟨by have := h.l; simp; omega, fun s hs => by
  cases s with
  | zero => exact hl
  | succ s => exact h.r s (by simp at hs; omega)⟩
theorem PerLen.set {P : Pl} {n : Nat} {l : List Int} (h : PerLen P n) (h0 : 0 < P.length) (hl : l.length ≤ 16) : PerLen (List.set P 0 l) n := ⟨by have := h.l; simp; omega, fun s hs => by
  rw [List.length_set] at hs
  rw [gdl_set h0]
  split
  · exact hl
  · exact h.r s hs⟩
theorem p7_end {N : Nat} {k n : Nat} {cu : Cu} {out : Pl} (hP : PerLen out n) (hr : ∀ s, s < out.length → (gd out s []).length ≤ 15) (h : Bud cu (k + 4)) : ∃ P c', Q35_K2 N cu out = some (P, c') ∧ Bud c' k ∧ PerLen P n := by
  simp only [Q35_K2, ilt_eq, len_eq]
  by_cases h0 : (0 : Int) < (out.length : Int)
  · have h0' : 0 < out.length := by omega
    obtain ⟨b, c1, e1, b1⟩ := one_ok (N := N) 24 (h.mono (show k + 2 + 2 ≤ k + 4 by omega))
    simp only [h0, decide_true, cond_true, e1, Option.bind_some]
    cases b with
    | false => exact ⟨out, c1, rfl, b1.mono (by omega), hP⟩
    | true =>
      obtain ⟨x, c2, e2, b2, _⟩ := among_ok (N := N) (list := [(-1), 0, 6]) (-1) 6 (by decide) (by decide) b1
      have hrl := hr 0 h0'
      simp only [cond_true, show inB (0 : Int) out.length = true from inB_in (by omega) h0, chk_true', e2, Option.bind_some, chk_of (fitB_in (n := (gd out 0 []).length + 1) (b := 8) (by omega) (by omega))]
      exact ⟨_, c2, rfl, b2, hP.set h0' (by simp; omega)⟩
  · simp only [h0, decide_false, cond_false]
    exact ⟨out, cu, rfl, h.mono (by omega), hP⟩
theorem p7_loop {N : Nat} (hN : 4194304 ≤ N) {c : Ch} (hc : ChLen c) : ∀ d s, s + d = c.2.1.length → ∀ (k : Nat) (cu : Cu) (last : List Int) (out : Pl), last.length ≤ 15 → out.length = s → (∀ s, s < out.length → (gd out s []).length ≤ 15) → Bud cu (k + 4 + 60 * d) →
    ∃ P c', (∀ m, d < m → Q35_L2 N m (s : Int) cu c last out = some (P, c')) ∧ Bud c' k ∧ PerLen P 3 := by
  have h3 := hc.l1
  intro d
  induction d with
  | zero =>
    intro s hs k cu last out hl ho hr h
    obtain ⟨P, c', e1, e2, e3⟩ := p7_end (N := N) (n := 3) (k := k) ⟨by omega, fun s hs => by have := hr s hs; omega⟩ hr (h.mono (by omega))
    refine ⟨P, c', fun m hm => ?_, e2, e3⟩
    obtain ⟨m, rfl⟩ : ∃ q, m = q + 1 := ⟨m - 1, by omega⟩
    rw [Q35_L2_succ]
    simp only [Q35_B2, ilt_eq, len_eq, Int.ofNat_lt, show ¬ s < c.2.1.length by omega, decide_false, cond_false]
    exact e1
  | succ d ih =>
    intro s hs k cu last out hl ho hr h
    have hfit : fitB (1 + out.length) 24 = true := fitB_in (by omega) (by omega)
    obtain ⟨f', c1, o1, o2, o3⟩ := p7_fewer (N := N) (c := c) (s : Int) last out (by omega) last.length 0 (by omega) (k + 4 + 60 * d) cu [] (by simp) (h.mono (by omega))
    obtain ⟨P, c', g1, g2, g3⟩ := ih (s + 1) (by omega) k c1 f' ([last] ++ out) (by omega) (by simp; omega) (fun s hs => by
      cases s with
      | zero => exact hl
      | succ s => exact hr s (by simp at hs; omega)) o2
    refine ⟨P, c', fun m hm => ?_, g2, g3⟩
    obtain ⟨m, rfl⟩ : ∃ q, m = q + 1 := ⟨m - 1, by omega⟩
    rw [Q35_L2_succ]
    simp only [Q35_B2, ilt_eq, len_eq, Int.ofNat_lt, show s < c.2.1.length by omega, decide_true, cond_true, hfit, chk_true']
    have := o1 (fun s c3 kx3 last2 out => Q35_L2 N m s c3 kx3 last2 out) N (by omega)
    rw [iadd_nat (show s < 4611686018427387904 by omega)] at this
    exact this.trans (g1 m (by omega))
theorem periods7_ok {N : Nat} (hN : 4194304 ≤ N) {k : Nat} {cu : Cu} {c : Ch} (hc : ChLen c) (h : Bud cu (k + 200)) : ∃ P c', Q35 N cu c = some (P, c') ∧ Bud c' k ∧ PerLen P 3 := by
  have h0 := hc.l0
  have h1 := hc.l1
  obtain ⟨n, hn, hn6⟩ : ∃ n : Nat, imin (len c.1) 6 = (n : Int) ∧ n ≤ 6 := by
    have := imin_bd (x := len c.1) (y := 6)
    rw [len_eq] at this ⊢
    exact ⟨(imin (c.1.length : Int) 6).toNat, by omega, by omega⟩
  obtain ⟨v, c1, e1, b1, v0, v1⟩ := pick_ok (N := N) (((2 ^ n : Nat)) : Int) (h.mono (show k + 198 + 2 ≤ k + 200 by omega))
  have hp : 2 ^ n ≤ 2 ^ 6 := Nat.pow_le_pow_right (by omega) hn6
  have hv : v = ((v.toNat : Nat) : Int) := by omega
  have e2 := spec_l2Bits_eq (N := N) (n := n) (k := v.toNat) (by omega) (by omega) hN
  rw [← hv] at e2
  have hlen : (pns (bitS v.toNat) n).length ≤ n := cnt_le _ _
  have rest : ∀ (cu : Cu) (last : List Int), last.length ≤ 15 → Bud cu (k + 190) → ∃ P c', Q35_K3 N cu c last = some (P, c') ∧ Bud c' k ∧ PerLen P 3 := fun cu last hl hb => by
    obtain ⟨P, c', g1, g2⟩ := p7_loop hN hc c.2.1.length 0 (by omega) k cu last [] hl rfl (fun s hs => absurd hs (by simp)) (hb.mono (by omega))
    exact ⟨P, c', g1 N (by omega), g2⟩
  have put : ∀ (b : Bool) (cu : Cu) (last : List Int), last.length ≤ 14 → Bud cu (k + 190) → ∃ P c', Q35_K4 N b cu c last = some (P, c') ∧ Bud c' k ∧ PerLen P 3 := fun b cu last hl hb => by
    simp only [Q35_K4]
    cases b with
    | false => exact rest cu last (by omega) hb
    | true =>
      obtain ⟨l', p1, p2⟩ := l1Put_ok (N := N) (l := last) 0 (by omega) hN
      simp only [cond_true, p1, Option.bind_some]
      exact rest cu l' (by omega) hb
  simp only [Q35, spec_l1Least_eq, Option.bind_some, hn, ile_eq, show (0 : Int) ≤ (n : Int) by omega, decide_true, chk_true', ishl_one (show n ≤ 30 by omega), e1, e2, ilt_eq]
  by_cases q : (0 : Int) < (n : Int)
  · simp only [q, decide_true, cond_true, spec_l1Has_eq 0 (show (pns (bitS v.toNat) n).length < 4194304 by omega) hN, Option.bind_some]
    by_cases q2 : ∃ i, i < (pns (bitS v.toNat) n).length ∧ gd (pns (bitS v.toNat) n) i 0 = 0
    · simp only [q2, decide_true, Bool.not_true, cond_false]
      exact put false c1 _ (by omega) (b1.mono (by omega))
    · obtain ⟨b, c2, e3, b2⟩ := one_ok (N := N) 6 (b1.mono (show k + 190 + 2 ≤ k + 198 by omega))
      simp only [q2, decide_false, Bool.not_false, cond_true, e3, Option.bind_some]
      exact put (!b) c2 _ (by omega) b2
  · simp only [q, decide_false, cond_false]
    exact put false c1 _ (by omega) (b1.mono (by omega))
theorem DrawNestedPlan_ok {N : Nat} (hN : 4194304 ≤ N) {code : List Int} (h : Bud (code, (0, 0)) 300) : ∃ c P, Q44 N code = some ((c, P), ()) ∧ ChLen c ∧ PerLen P 3 := by
  obtain ⟨c, c1, e1, b1, l1⟩ := chain_ok hN (h.mono (show 200 + 70 ≤ 300 by omega))
  obtain ⟨P, c2, e2, b2, l2⟩ := periods7_ok (N := N) (k := 0) hN l1 b1
  exact ⟨c, P, by simp only [Q44, e1, e2, Option.bind_some], l1, l2⟩
theorem cnt_drop {S : Nat → Bool} {p : Nat} (hS : S p = true) : ∀ n, cnt S n = cnt (fun q => S q && !decide (q = p)) n + (if p < n then 1 else 0)
  | 0 => by simp [cnt_zero]
  | n + 1 => by
    have ih := cnt_drop hS n
    rw [cnt_succ, cnt_succ, ih]
    by_cases e : n = p
    · subst e
      simp [hS]
    · by_cases e2 : p < n
      · rw [if_pos e2, if_pos (show p < n + 1 by omega)]
        simp only [e, decide_false, Bool.not_false, Bool.and_true]
        omega
      · rw [if_neg e2, if_neg (show ¬ p < n + 1 by omega)]
        simp only [e, decide_false, Bool.not_false, Bool.and_true]
        omega
theorem nx_off {S : Nat → Bool} {n t : Nat} (ht : t < n) (h : S t = false) : nx S n t = nx S n (t + 1) := by
  unfold nx
  rw [show n - t = (n - (t + 1)) + 1 by omega]
  simp only [nxd, h, Bool.false_eq_true, if_false]
theorem planS_off {S : Nat → Bool} {need : List Int} (hS : covS S need = true) (hb : ∀ i, i < need.length → 0 ≤ gd need i 0) {t : Nat} (ht : t < need.length) (h : S t = false) : gd (planS S need) t 0 = 0 := by
  rw [planS_gd hS hb ht, nx_off ht h]; omega
theorem move_cnt {S : Nat → Bool} {need : List Int} (hS : covS S need = true) (hb : ∀ i, i < need.length → 0 ≤ gd need i 0) {p : Nat} (hp : p < need.length) (hSp : S p = true) (h0 : gd (planS S need) p 0 ≤ 0) : cnt (moveS S need) need.length < cnt S need.length := by
  have h1 := cnt_drop hSp need.length
  rw [if_pos hp] at h1
  refine Nat.lt_of_le_of_lt (m := cnt (fun q => S q && !decide (q = p)) need.length) ?_ (by omega)
  refine cnt_image (fun q => nx (posN need) need.length q) fun m hm hM => ?_
  obtain ⟨g1, r, g2, g3⟩ := moveS_iff.1 hM
  obtain ⟨r1, r2, r3⟩ := own_some g2
  have hrp : r ≠ p := fun e => by
    subst e
    have hx1 := nx_self (S := S) (n := need.length) (t := r) (by omega) (.inr r2)
    have hx2 := nx_is S (n := need.length) (t := r + 1) (by omega)
    have hge : m < nx S need.length (r + 1) := by
      rcases Nat.lt_or_ge m (nx S need.length (r + 1)) with g | g
      · exact g
      · rcases hx2.2.2.1 with g' | g'
        · omega
        · rw [own_last g2 (by omega) g] at g'; cases g'
    have e1 := planS_gd hS hb hp
    rw [hx1] at e1
    have e2 := psum_upto hb (show m + 1 ≤ nx S need.length (r + 1) by omega) hx2.2.1
    have e3 := psum_succ (xs := need) (i := m) hm
    omega
  refine ⟨r, by omega, by simp [r2, hrp], ?_⟩
  have hx := nx_is (posN need) (n := need.length) (t := r) (by omega)
  have hle := nx_le (S := posN need) (n := need.length) (t := r) (p := m) r1 (by omega) (.inr (by simp only [posN, decide_eq_true_eq]; exact g1))
  rcases Nat.lt_or_ge (nx (posN need) need.length r) m with g | g
  · exfalso
    rcases hx.2.2.1 with g' | g'
    · omega
    · simp only [posN, decide_eq_true_eq] at g'
      have e1 := psum_succ (xs := need) (i := nx (posN need) need.length r) (by omega)
      have e2 := psum_upto hb (show r ≤ nx (posN need) need.length r by omega) (by omega)
      have e3 := psum_upto hb (show nx (posN need) need.length r + 1 ≤ m by omega) (by omega)
      omega
  · show nx (posN need) need.length r = m
    omega
theorem manyN_mono {A B : Nat → Nat → Bool} {n : Nat} : ∀ K, (∀ s, s < K → cnt (A s) n ≤ cnt (B s) n) → manyN A n K ≤ manyN B n K ∧ (manyN B n K ≤ manyN A n K → ∀ s, s < K → cnt (A s) n = cnt (B s) n)
  | 0, _ => ⟨Nat.le_refl _, fun _ s hs => by omega⟩
  | K + 1, h => by
    obtain ⟨h1, h2⟩ := manyN_mono K (fun s hs => h s (by omega))
    have h3 := h K (by omega)
    simp only [manyN]
    refine ⟨by omega, fun hle s hs => ?_⟩
    by_cases e : s = K
    · subst e; omega
    · exact h2 (by omega) s (by omega)
theorem best_min {c : Ch} (hc : ChainP c) : ∃ j, bestNo c (allNo c) = some j ∧ validA c (codeA c.2.1.length j) ∧ nestCost c (codeA c.2.1.length j) = outV c 0 ∧ ∀ X, validA c X → betA c X (codeA c.2.1.length j) = false := by
  obtain ⟨j, h1, h2, h3, h4, h5⟩ := bestNo_end hc
  refine ⟨j, h2, ⟨codeA_nested _ _ _, h3⟩, h4, fun X hX => ?_⟩
  obtain ⟨k, k1, k2⟩ := code_nested hX.1
  have hk : covK c k = true := by show covAll c (codeA c.2.1.length k) = true; rw [(nestCost_ext k2).2.1]; exact hX.2
  have hb := h5 k k1 hk
  have e1 : betA c (codeA c.2.1.length k) (codeA c.2.1.length j) = false := by
    unfold betA
    rw [← sumD_many, ← sumD_many]
    exact hb
  rw [bet_ext k2] at e1
  exact e1
theorem best_pos {c : Ch} (hc : ChainP c) {A : Nat → Nat → Bool} (hv : validA c A) (hA : nestCost c A = outV c 0) (hm : ∀ X, validA c X → betA c X A = false) : ∀ s, s < c.2.1.length → ∀ p, p < c.1.length → A s p = true → 0 < gd (planS (A s) c.1) p 0 := by
  have hcov := covAll_iff.1 hv.2
  have hnn : ∀ i, i < c.1.length → 0 ≤ gd c.1 i 0 := fun i hi => (hc.b0 i hi).1
  have hX : validA c (fun s => moveS (A s) c.1) := ⟨moveS_nested hc hv.1, covAll_iff.2 fun s hs => moveS_cov hc.b0 (hcov s hs)⟩
  have hcnt : ∀ s, s < c.2.1.length → cnt (moveS (A s) c.1) c.1.length ≤ cnt (A s) c.1.length := fun s hs => by
    refine cnt_image (fun q => nx (posN c.1) c.1.length q) fun m hm hM => ?_
    obtain ⟨g1, r, g2, g3⟩ := moveS_iff.1 hM
    obtain ⟨r1, r2, r3⟩ := own_some g2
    refine ⟨r, by omega, r2, ?_⟩
    have hx := nx_is (posN c.1) (n := c.1.length) (t := r) (by omega)
    have hle := nx_le (S := posN c.1) (n := c.1.length) (t := r) (p := m) r1 (by omega) (.inr (by simp only [posN, decide_eq_true_eq]; exact g1))
    rcases Nat.lt_or_ge (nx (posN c.1) c.1.length r) m with g | g
    · exfalso
      rcases hx.2.2.1 with g' | g'
      · omega
      · simp only [posN, decide_eq_true_eq] at g'
        have e1 := psum_succ (xs := c.1) (i := nx (posN c.1) c.1.length r) (by omega)
        have e2 := psum_upto hnn (show r ≤ nx (posN c.1) c.1.length r by omega) (by omega)
        have e3 := psum_upto hnn (show nx (posN c.1) c.1.length r + 1 ≤ m by omega) (by omega)
        omega
    · show nx (posN c.1) c.1.length r = m
      omega
  have hcost : nestCost c (fun s => moveS (A s) c.1) ≤ nestCost c A := rsum_le fun s hs => move_cost hc.b0 (hcov s hs) (hc.b1 s hs).1 (echel_bd hc (by have := hc.l; omega)).1
  have hge := outV_nest hc hX.1 (covAll_iff.1 hX.2)
  have heq : nestCost c (fun s => moveS (A s) c.1) = nestCost c A := by omega
  have hb := hm _ hX
  simp only [betA, betterB, heq, Int.lt_irrefl, decide_false, Bool.false_or, decide_true, Bool.true_and, Bool.or_eq_false_iff, decide_eq_false_iff_not] at hb
  obtain ⟨m1, m2⟩ := manyN_mono (A := fun s => moveS (A s) c.1) (B := A) (n := c.1.length) c.2.1.length hcnt
  intro s hs p hp hS
  rcases Int.lt_or_le 0 (gd (planS (A s) c.1) p 0) with g | g
  · exact g
  · have h1 := move_cnt (hcov s hs) hnn hp hS g
    have h2 := m2 (by have := hb.1; omega) s hs
    have h2' : cnt (moveS (A s) c.1) c.1.length = cnt (A s) c.1.length := h2
    omega
def nesT (plan : Pl) (s t : Nat) : Bool := !(decide (0 < gd (gd plan s []) t 0) && decide (gd (gd plan (s + 1) []) t 0 = 0))
def nesS (n : Nat) (plan : Pl) (s : Nat) : Bool := (List.range n).all (nesT plan s)
def nestedB (n : Nat) (plan : Pl) : Bool := (List.range (plan.length - 1)).all (nesS n plan)
def isNest (c : Ch) (plan : Pl) : Bool × Bool := bif chainB c && chPlanB c plan then (nestedB c.1.length plan, true) else (false, false)
theorem impl_IsNestedPlan_eq {N : Nat} {c : Ch} {plan : Pl} (hs : SmCh c) (hp : SmPl plan) (hN : 4194304 ≤ N) : Q17 N c plan = some (isNest c plan, ()) := by
  simp only [Q17, impl_linked_eq hs hp hN, Option.bind_some, bif_not, isNest]
  cases hb : chainB c && chPlanB c plan with
  | false => rfl
  | true =>
    simp only [cond_true]
    have h := chPl hb
    have hc := h.cs
    have hn := hc.n
    have hl := h.l
    have h3 := hc.s3
    have h1 := hc.s1
    have hrl : ∀ s, s < plan.length → (gd plan s []).length = c.1.length := fun s hs => (rowOk_out (h.r s hs)).1
    have inner : ∀ s, s + 1 < plan.length → ∀ kx, Q17_L1 N N kx plan ((s + 1 : Nat) : Int) (gd plan s []) (c.1.length : Int) 0 = bif nesS c.1.length plan s then kx plan ((s + 2 : Nat) : Int) else some ((false, true), ()) := fun s hs kx => by
      have l1 := hrl s (by omega)
      have l2 := hrl (s + 1) hs
      have step : ∀ t, t < c.1.length → ∀ kx1, Q17_B1 N kx kx1 plan ((s + 1 : Nat) : Int) (gd plan s []) (c.1.length : Int) (t : Nat) = bif nesT plan s t then kx1 plan ((s + 1 : Nat) : Int) (gd plan s []) (c.1.length : Int) ((t + 1 : Nat) : Int) else some ((false, true), ()) := fun t ht kx1 => by
        simp only [Q17_B1, ilt_eq, Int.ofNat_lt, ht, decide_true, cond_true, inB_true (show t < (gd plan s []).length by omega), inB_true (show t < (gd plan (s + 1) []).length by omega), inB_true hs, chk_true', Int.toNat_natCast, ieq_eq, iadd_nat (show t < 4611686018427387904 by omega), nesT]
        by_cases q1 : 0 < gd (gd plan s []) t 0
        · by_cases q2 : gd (gd plan (s + 1) []) t 0 = 0
          · simp [q1, q2]
          · simp [q1, q2]
        · simp [q1]
      rcases range_cases (nesT plan s) c.1.length with ⟨g1, g2⟩ | ⟨g1, j, g2, g4, g5⟩
      · rw [show nesS c.1.length plan s = true from g1]
        refine Q17_L1_run N kx (fun _ => plan) (fun _ => ((s + 1 : Nat) : Int)) (fun _ => gd plan s []) (fun _ => (c.1.length : Int)) (fun t => (t : Int)) c.1.length (fun t ht kx1 => by rw [step t ht, g2 t ht]; rfl) (fun kx1 => ?_) N (by omega)
        simp only [Q17_B1, Q17_K1, ilt_eq, Int.lt_irrefl, decide_false, cond_false, cond_true, iadd_nat (show s + 1 < 4611686018427387904 by omega)]
      · rw [show nesS c.1.length plan s = false from g1]
        exact Q17_L1_run N kx (fun _ => plan) (fun _ => ((s + 1 : Nat) : Int)) (fun _ => gd plan s []) (fun _ => (c.1.length : Int)) (fun t => (t : Int)) j (fun t ht kx1 => by rw [step t (by omega), g4 t ht]; rfl) (fun kx1 => by rw [step j g2, g5]; rfl) N (by omega)
    have step : ∀ s, s + 1 < plan.length → ∀ kx, Q17_B2 N kx plan ((s + 1 : Nat) : Int) = bif nesS c.1.length plan s then kx plan ((s + 1 + 1 : Nat) : Int) else some ((false, true), ()) := fun s hs kx => by
      have e : isub .i64 ((s + 1 : Nat) : Int) 1 = (s : Int) := by rw [isub_in (by omega) (by omega)]; omega
      simp only [Q17_B2, ilt_eq, len_eq, Int.ofNat_lt, hs, decide_true, cond_true, e, inB_true (show s < plan.length by omega), chk_true', Int.toNat_natCast, hrl s (by omega), inner s hs]
    rcases range_cases (nesS c.1.length plan) (plan.length - 1) with ⟨g1, g2⟩ | ⟨g1, j, g2, g4, g5⟩
    · rw [show nestedB c.1.length plan = true from g1]
      refine Q17_L2_run N (fun _ => plan) (fun s => ((s + 1 : Nat) : Int)) (plan.length - 1) (fun s hs kx => by rw [step s (by omega), g2 s hs]; rfl) (fun kx => ?_) N (by omega)
      simp only [Q17_B2, Q17_K2, ilt_eq, len_eq, Int.ofNat_lt, show ¬ (plan.length - 1 + 1 < plan.length) by omega, decide_false, cond_false]
    · rw [show nestedB c.1.length plan = false from g1]
      exact Q17_L2_run N (fun _ => plan) (fun s => ((s + 1 : Nat) : Int)) j (fun s hs kx => by rw [step s (by omega), g4 s hs]; rfl) (fun kx => by rw [step j (by omega), g5]; rfl) N (by omega)
theorem best_nestedB {c : Ch} (hc : ChainP c) {A : Nat → Nat → Bool} (hv : validA c A) (hA : nestCost c A = outV c 0) (hm : ∀ X, validA c X → betA c X A = false) : nestedB c.1.length (nestPlan c A) = true := by
  have hcov := covAll_iff.1 hv.2
  have hnn : ∀ i, i < c.1.length → 0 ≤ gd c.1 i 0 := fun i hi => (hc.b0 i hi).1
  refine rangeB.2 fun s hs => rangeB.2 fun t ht => ?_
  rw [nestPlan_len] at hs
  simp only [nesT, nestPlan_gd c A (show s < c.2.1.length by omega), nestPlan_gd c A (show s + 1 < c.2.1.length by omega)]
  by_cases q : 0 < gd (planS (A s) c.1) t 0
  · have hSt : A s t = true := by
      cases h : A s t with
      | true => rfl
      | false => rw [planS_off (hcov s (by omega)) hnn ht h] at q; omega
    have := best_pos hc hv hA hm (s + 1) (by omega) t ht (hv.1 s (by omega) t ht hSt)
    simp [show ¬ gd (planS (A (s + 1)) c.1) t 0 = 0 by omega]
  · simp [q]
theorem laws_vPlan_refl {N : Nat} {P : Pl} (h : SmPl P) (hN : 4194304 ≤ N) : Q28 N P P = some (true, ()) := by
  have hl := h.l
  have key : Q29 N P P = some (true, ()) := by
    simp only [Q29, ine_eq, len_eq, decide_true, Bool.not_true, cond_false]
    refine Q29_L1_run N (fun _ => P) (fun _ => P) (fun i => (i : Int)) P.length (fun i hi kx => ?_) (fun kx => ?_) N (by omega)
    · simp only [Q29_B1, ilt_eq, len_eq, Int.ofNat_lt, hi, decide_true, cond_true, inB_true hi, chk_true', Int.toNat_natCast, laws_vInts_refl (h.r i hi) hN, Option.bind_some, Bool.not_true, cond_false, iadd_nat (show i < 4611686018427387904 by omega)]
    · simp only [Q29_B1, Q29_K1, ilt_eq, len_eq, Int.lt_irrefl, decide_false, cond_false]
  simp only [Q28, key, Option.bind_some]
theorem nil_sm : SmPl ([] : Pl) := ⟨by simp, fun s hs => absurd hs (by simp)⟩
theorem nestPl_sm {c : Ch} (hs : SmCh c) (A : Nat → Nat → Bool) : SmPl (nestPlan c A) := ⟨by rw [nestPlan_len]; exact hs.s1, fun s h => by
  rw [nestPlan_len] at h
  rw [nestPlan_gd c A h, planS_len]; exact hs.s0⟩
theorem nestOf_sm {c : Ch} (hs : SmCh c) (P : Pl) : SmPl (nestOf c P).1 := by
  unfold nestOf
  cases chainB c && (decide (P.length = c.2.1.length) && (perAll c.1.length P && covAll c (rowsA P))) with
  | false => exact nil_sm
  | true => exact nestPl_sm hs _
theorem stwOf_sm {c : Ch} (hs : SmCh c) : SmPl (stwOf c).1 := by
  unfold stwOf swOf
  cases chainB c with
  | false => exact nil_sm
  | true => cases swOk c with
    | false => exact nil_sm
    | true =>
      refine ⟨by simp only [cond_true, swTail, List.length_map, List.length_range]; exact hs.s1, fun s h => ?_⟩
      simp only [cond_true, swTail, List.length_map, List.length_range] at h
      have : gd (swTail c c.2.1.length) s [] = swN c (c.2.1.length - s) := gd_map_range _ [] h
      show (gd (swTail c c.2.1.length) s []).length < 4194304
      rw [this, swN_len]; exact hs.s0
theorem plan_out {c : Ch} {plan : Pl} (hb : (chainB c && chPlanB c plan) = true) : chCost c plan = (costCh c plan, true) ∧ outV c 0 ≤ costCh c plan := by
  have h := chPl hb
  obtain ⟨A, a1, a2, a3⟩ := nest_ge h
  have := outV_nest h.cs a1 a2
  exact ⟨by simp only [chCost, hb, cond_true], by omega⟩
theorem Nested_K1 {N : Nat} {c : Ch} (hc : ChainP c) (hcb : chainB c = true) (hs : SmCh c) {j : Nat} (hj : bestNo c (allNo c) = some j) (hN : 4194304 ≤ N) : laws_FnNested_K1 N (famK c j) true (outV c 0) true c = some (true, ()) := by
  obtain ⟨j', h1, h2, h3, h4⟩ := best_min hc
  rw [hj] at h1; cases h1
  have hok := nest_ok hc h2.1 (covAll_iff.1 h2.2)
  have hns := nestPl_sm hs (codeA c.2.1.length j)
  have hfs : SmPl (famK c j) := famL_sm _ hs.s1 hs.s0
  have e1 : Q18 N c (famK c j) = some ((nestPlan c (codeA c.2.1.length j), true), ()) := by
    rw [impl_NestedPlan_eq hs hfs hN, ← spec_NestedPlan_eq hs hfs hN]
    have := spec_NestedPlan_nested hc hcb hs h2.1 hN
    rw [h2.2] at this
    exact this
  have hb : (chainB c && chPlanB c (nestPlan c (codeA c.2.1.length j))) = true := by rw [hcb, hok]; rfl
  have e2 := (plan_out hb).1
  simp only [laws_FnNested_K1, Bool.not_true, cond_false, e1, Option.bind_some, impl_ChainCost_eq hs hns hN, e2, impl_IsNestedPlan_eq hs hns hN, isNest, hb, cond_true, best_nestedB hc h2 h3 h4, ieq_eq, nest_cost, h3, decide_true]
theorem laws_FnNested_law (code : List Int) (h : RngB code) : ∃ N, laws_FnNested N code = some (true, ()) := by
  refine ⟨4194304, ?_⟩
  have hN := Nat.le_refl 4194304
  simp only [laws_FnNested, Q26, ilt_eq, len_eq, Option.bind_some]
  by_cases hl : (65536 : Int) < code.length
  · simp [hl]
  · have hl' : code.length ≤ 65536 := by omega
    simp only [hl, decide_false, cond_false]
    obtain ⟨c, P, e1, hc, hP⟩ := DrawNestedPlan_ok hN (bud_zero h hl' 300 (by omega))
    have hs := hc.sm
    have hPs := hP.sm (by omega)
    have k1 : ∀ best fine, Q4 4194304 c = some ((best, fine), ()) → laws_FnNested_K1 4194304 best fine (bestCh c).1 (bestCh c).2 c = some (true, ()) := fun best fine hbf => by
      rcases impl_BestNested_eq hs hN with ⟨g1, g2⟩ | ⟨g1, j, g2, g3⟩
      · rw [g2] at hbf; cases hbf
        simp only [laws_FnNested_K1, bestCh, g1, Bool.not_false, cond_true, cond_false]
      · rw [g3] at hbf; cases hbf
        simp only [bestCh, g1, cond_true]
        exact Nested_K1 (chainP g1) g1 hs g2 hN
    have k2 : ∀ best fine, Q4 4194304 c = some ((best, fine), ()) → laws_FnNested_K2 4194304 best fine (bestCh c).1 (bestCh c).2 (stwOf c).1 (stwOf c).2 c = some (true, ()) := fun best fine hbf => by
      have := k1 best fine hbf
      simp only [laws_FnNested_K2]
      cases hst : (stwOf c).2 with
      | false => exact this
      | true =>
        have hcb : chainB c = true := by
          cases hh : chainB c with
          | true => rfl
          | false => simp [stwOf, hh] at hst
        have hok : swOk c = true := by
          cases hh : swOk c with
          | true => rfl
          | false => simp [stwOf, swOf, hcb, hh] at hst
        have hpl : (chainB c && chPlanB c (stwOf c).1) = true := by
          rw [hcb, Bool.true_and]
          simp only [stwOf, swOf, hcb, hok, cond_true]
          exact sw_plan (chainP hcb) hok
        obtain ⟨g1, g2⟩ := plan_out hpl
        have g3 : (bestCh c).1 = outV c 0 := by simp only [bestCh, hcb, cond_true]
        simp only [cond_true, impl_ChainCost_eq hs (stwOf_sm hs) hN, g1, Option.bind_some, Bool.not_true, cond_false, ilt_eq, g3, show ¬ costCh c (stwOf c).1 < outV c 0 by omega, decide_false]
        rw [g3] at this
        exact this
    have hbest : ∃ best fine, Q4 4194304 c = some ((best, fine), ()) ∧ Q43 4194304 c = some ((best, fine), ()) ∧ SmPl best := by
      rcases impl_BestNested_eq hs hN with ⟨g1, g2⟩ | ⟨g1, j, g2, g3⟩
      · rcases spec_BestNested_eq hs hN with ⟨f1, f2⟩ | ⟨f1, i, f2, f3⟩
        · exact ⟨_, _, g2, f2, nil_sm⟩
        · rw [g1] at f1; cases f1
      · rcases spec_BestNested_eq hs hN with ⟨f1, f2⟩ | ⟨f1, i, f2, f3⟩
        · rw [g1] at f1; cases f1
        · rw [g2] at f2; cases f2
          exact ⟨_, _, g3, f3, famL_sm _ hs.s1 hs.s0⟩
    obtain ⟨best, fine, b1, b2, b3⟩ := hbest
    have k2' := k2 best fine b1
    simp only [e1, Option.bind_some, impl_NestedPlan_eq hs hPs hN, spec_NestedPlan_eq hs hPs hN, b1, b2, impl_BestChainCost_eq hs hN, spec_BestChainCost_eq hs hN, impl_StagewisePlan_eq hs hN, spec_StagewisePlan_eq hs hN, bif_not, Go.Rx.beq, BEq.rfl, cond_true, laws_vPlan_refl (nestOf_sm hs P) hN, laws_vPlan_refl b3 hN, laws_vPlan_refl (stwOf_sm hs) hN, ine_eq, decide_true, Bool.not_true, cond_false, k2', ilt_eq]
    cases hno : (nestOf c P).2 with
    | false => rfl
    | true =>
      have hcon : (chainB c && (decide (P.length = c.2.1.length) && (perAll c.1.length P && covAll c (rowsA P)))) = true := by
        cases hh : (chainB c && (decide (P.length = c.2.1.length) && (perAll c.1.length P && covAll c (rowsA P)))) with
        | true => rfl
        | false => simp only [nestOf, hh, cond_false] at hno; cases hno
      have hno1 : (nestOf c P).1 = nestPlan c (rowsA P) := by simp only [nestOf, hcon, cond_true]
      simp only [Bool.and_eq_true, decide_eq_true_eq] at hcon
      obtain ⟨hcb, hlen, hper, hcov⟩ := hcon
      obtain ⟨_, hnest⟩ := per_fam hper
      rw [hlen] at hnest
      have hpl : (chainB c && chPlanB c (nestOf c P).1) = true := by
        rw [hcb, Bool.true_and, hno1]
        exact nest_ok (chainP hcb) hnest (covAll_iff.1 hcov)
      obtain ⟨g1, g2⟩ := plan_out hpl
      have g3 : (bestCh c).1 = outV c 0 := by simp only [bestCh, hcb, cond_true]
      simp only [cond_true, impl_ChainCost_eq hs (nestOf_sm hs P) hN, g1, Option.bind_some, cond_false, g3, show ¬ costCh c (nestOf c P).1 < outV c 0 by omega, decide_false]
end Go.Rx.Px
