/- This text proves, of the plain functions behind FnExactBestNested, that the law answers true (part 2 of 2); no condition beyond the ranges that its arguments have. -/
import Derived.Test.YtkkmjhibacgmfaaThAFnExactBestNested
set_option linter.unusedVariables false
set_option linter.unusedSimpArgs false
namespace Go.Rx.Px
theorem lastA_cons {c : Ch} {A : Fam} {j : Nat} (hj : j < c.2.1.length) (S : Nat → Bool) : pns S c.1.length :: lastA c A (j + 1) = lastA c (setA A j S) j := by
  simp only [lastA]
  rw [show c.2.1.length - j = (c.2.1.length - (j + 1)) + 1 by omega, List.range_succ_eq_map, List.map_cons, List.map_map]
  congr 1
  · simp [setA]
  · apply List.map_congr_left
    intro i _
    simp only [Function.comp, setA]
    rw [if_neg (by omega), show j + 1 + i = j + i.succ by omega]
def nestFrom (c : Ch) (A : Fam) (j : Nat) : Prop := ∀ s, j ≤ s → s + 1 < c.2.1.length → ∀ p, p < c.1.length → A s p = true → A (s + 1) p = true
def validA (c : Ch) (A : Fam) : Prop := NestedA A c.1.length c.2.1.length ∧ covAll c A = true
def encB (c : Ch) : Option Fam → Pl × Int × Bool
  | none => ([], (0, false))
  | some A => (famL A c.2.1.length c.1.length, (nestCost c A, true))
def okB (c : Ch) (o : Option Fam) : Prop := ∀ A, o = some A → validA c A
theorem upd_ok {c : Ch} {o : Option Fam} {A : Fam} (h : okB c o) (hA : NestedA A c.1.length c.2.1.length) : okB c (upd c o A) := by
  intro B hB
  unfold upd at hB
  split at hB
  · rename_i hc
    split at hB
    · cases hB; exact ⟨hA, hc⟩
    · rename_i D
      split at hB
      · cases hB; exact ⟨hA, hc⟩
      · cases hB; exact h _ rfl
  · exact h B hB
theorem nestFrom_set {c : Ch} {A : Fam} {j k : Nat} (h : nestFrom c A (j + 1)) (hm : mayB c A j k = true) : nestFrom c (setA A j (bitS k)) j := by
  intro s hs hK p hp hA
  simp only [setA] at hA ⊢
  rw [if_neg (by omega)]
  by_cases e : s = j
  · subst e
    rw [if_pos rfl] at hA
    simp only [mayB, Bool.or_eq_true, decide_eq_true_eq] at hm
    rcases hm with hm | hm
    · omega
    · exact subS_iff.1 hm p hp hA
  · rw [if_neg e] at hA
    exact h s (by omega) hK p hp hA
theorem foldT_ok {c : Ch} {f : Nat → Option Fam → Option Fam} (hf : ∀ k o, okB c o → okB c (f k o)) {o : Option Fam} (h : okB c o) : ∀ n, okB c (foldT f o n)
  | 0 => h
  | n + 1 => hf n _ (foldT_ok hf h n)
theorem tryA_ok {c : Ch} : ∀ j A o, nestFrom c A j → okB c o → okB c (tryA c j A o)
  | 0, A, o, hA, h => upd_ok h fun s hs p hp hh => hA s (Nat.zero_le _) hs p hp hh
  | j + 1, A, o, hA, h => foldT_ok (fun k o ho => by
      by_cases hm : mayB c A j k = true
      · rw [if_pos hm]; exact tryA_ok j _ o (nestFrom_set hA hm) ho
      · rw [if_neg hm]; exact ho) h _
def notBet (c : Ch) (o : Option Fam) (X : Fam) : Prop := ∃ B, o = some B ∧ betA c X B = false
theorem betA_self (c : Ch) (A : Fam) : betA c A A = false := better_self
theorem betA_trans {c : Ch} {A B D : Fam} (h1 : betA c A B = true) (h2 : betA c B D = true) : betA c A D = true := betterB_trans h1 h2
theorem upd_keep {c : Ch} {o : Option Fam} {A X : Fam} (h : notBet c o X) : notBet c (upd c o A) X := by
  obtain ⟨B, rfl, hb⟩ := h
  unfold upd
  split
  · simp only
    split
    · rename_i hAB
      refine ⟨A, rfl, ?_⟩
      cases hq : betA c X A with
      | false => rfl
      | true => rw [betA_trans hq hAB] at hb; cases hb
    · exact ⟨B, rfl, hb⟩
  · exact ⟨B, rfl, hb⟩
theorem foldT_keep {c : Ch} {X : Fam} {f : Nat → Option Fam → Option Fam} (hf : ∀ k o, notBet c o X → notBet c (f k o) X) {o : Option Fam} (h : notBet c o X) : ∀ n, notBet c (foldT f o n) X
  | 0 => h
  | n + 1 => hf n _ (foldT_keep hf h n)
theorem foldT_at {c : Ch} {X : Fam} {f : Nat → Option Fam → Option Fam} (hf : ∀ k o, notBet c o X → notBet c (f k o) X) {o : Option Fam} {k0 : Nat} (hk : ∀ o, notBet c (f k0 o) X) : ∀ n, k0 < n → notBet c (foldT f o n) X
  | 0, h => by omega
  | n + 1, h => by
    by_cases e : k0 = n
    · subst e; exact hk _
    · exact hf n _ (foldT_at hf hk n (by omega))
theorem tryA_keep {c : Ch} {X : Fam} : ∀ j A o, notBet c o X → notBet c (tryA c j A o) X
  | 0, _, _, h => upd_keep h
  | j + 1, A, o, h => foldT_keep (fun k o ho => by
      by_cases hm : mayB c A j k = true
      · rw [if_pos hm]; exact tryA_keep j _ o ho
      · rw [if_neg hm]; exact ho) h _
theorem bet_ext {c : Ch} {A B X : Fam} (h : ∀ s, s < c.2.1.length → ∀ p, p < c.1.length → A s p = B s p) : betA c A X = betA c B X := by
  obtain ⟨h1, _, h3⟩ := nestCost_ext h
  have h4 : ∀ m, m ≤ c.2.1.length → manyN A c.1.length m = manyN B c.1.length m := by
    intro m
    induction m with
    | zero => intro _; rfl
    | succ m ih =>
      intro hm
      simp only [manyN, ih (by omega)]
      have : pns (A m) c.1.length = pns (B m) c.1.length := pns_ext (h m (by omega))
      unfold cnt
      rw [this]
  unfold betA
  rw [h1, h3, h4 _ (Nat.le_refl _)]
theorem tryA_min {c : Ch} {X : Fam} (hX : validA c X) : ∀ j A o, j ≤ c.2.1.length → (∀ s, j ≤ s → s < c.2.1.length → ∀ p, p < c.1.length → A s p = X s p) → notBet c (tryA c j A o) X
  | 0, A, o, _, h => by
    have hall : ∀ s, s < c.2.1.length → ∀ p, p < c.1.length → A s p = X s p := fun s hs => h s (Nat.zero_le _) hs
    have hcv : covAll c A = true := by rw [(nestCost_ext hall).2.1]; exact hX.2
    simp only [tryA, upd]
    rw [if_pos hcv]
    have e : ∀ Y, betA c X Y = betA c A Y := fun Y => (bet_ext hall).symm
    split
    · exact ⟨A, rfl, by rw [e]; exact betA_self c A⟩
    · rename_i B
      split
      · exact ⟨A, rfl, by rw [e]; exact betA_self c A⟩
      · rename_i hb
        exact ⟨B, rfl, by rw [e]; simpa using hb⟩
  | j + 1, A, o, hj, h => by
    obtain ⟨k, k1, k2⟩ := code_ofB (X j) c.1.length
    have hm : mayB c A j k = true := by
      simp only [mayB, Bool.or_eq_true, decide_eq_true_eq]
      by_cases e : j + 1 = c.2.1.length
      · exact .inl e
      · refine .inr (subS_iff.2 fun p hp hb => ?_)
        rw [h (j + 1) (Nat.le_refl _) (by omega) p hp]
        rw [k2 p hp] at hb
        exact hX.1 j (by omega) p hp hb
    refine foldT_at (c := c) (X := X) (fun k o ho => ?_) (k0 := k) (fun o => ?_) _ k1
    · by_cases hm : mayB c A j k = true
      · rw [if_pos hm]; exact tryA_keep j _ o ho
      · rw [if_neg hm]; exact ho
    · show notBet c (if mayB c A j k = true then tryA c j (setA A j (bitS k)) o else o) X
      rw [if_pos hm]
      refine tryA_min hX j _ o (by omega) fun s hs hK p hp => ?_
      simp only [setA]
      by_cases e : s = j
      · subst e; rw [if_pos rfl]; exact k2 p hp
      · rw [if_neg e]; exact h s (by omega) hK p hp
theorem try_leaf {N : Nat} {c : Ch} (hc : ChainP c) (hcb : chainB c = true) (hs : SmCh c) {A : Fam} (hA : NestedA A c.1.length c.2.1.length) {o : Option Fam} (ho : okB c o) (hN : 4194304 ≤ N) (kr : Ch → Pl → Pl × Int × Bool → Option ((Pl × Int × Bool) × Unit)) :
    spec_l7Try_F N kr c (lastA c A 0) (encB c o) = some (encB c (upd c o A), ()) := by
  have hn := hc.n
  have h3 := hc.s3
  rw [lastA_zero]
  simp only [spec_l7Try_F, len_eq, famL_len, ieq_eq, decide_true, cond_true, spec_NestedPlan_nested hc hcb hs hA hN, Option.bind_some, bif_not]
  unfold upd
  by_cases hcv : covAll c A = true
  · have hcov := covAll_iff.1 hcv
    have hcost : spec_l7Cost N c (nestPlan c A) = some (nestCost c A, ()) := by rw [spec_l7Cost_eq (nestPlan_ch hc hcb hA hcov) hN, nest_cost]
    have hm := spec_l7Many_fam (N := N) A h3 hn hN
    rw [if_pos hcv]
    simp only [hcv, cond_true, hcost, Option.bind_some, hm]
    cases o with
    | none => simp only [encB, spec_l7Many_nil hN, Option.bind_some, cond_false]
    | some B =>
      have hless := spec_l7Less_eq (N := N) (a := famL A c.2.1.length c.1.length) (b := famL B c.2.1.length c.1.length) (famL_sm A (by omega) (by omega)) (by rw [famL_len, famL_len]) hN
      simp only [encB, spec_l7Many_fam (N := N) B h3 hn hN, Option.bind_some, cond_true, hless, ilt_eq, ieq_eq, betA, betterB, Int.ofNat_lt, Int.natCast_inj]
      by_cases q1 : nestCost c A < nestCost c B
      · simp [q1]
      · by_cases q0 : nestCost c A = nestCost c B
        · by_cases q2 : manyN A c.1.length c.2.1.length < manyN B c.1.length c.2.1.length
          · simp [eq_false q1, eq_true q0, q2]
          · by_cases q3 : manyN A c.1.length c.2.1.length = manyN B c.1.length c.2.1.length
            · by_cases q4 : cmpLL (famL A c.2.1.length c.1.length) (famL B c.2.1.length c.1.length) < 0 <;> simp [eq_false q1, eq_true q0, eq_false q2, eq_true q3, q4]
            · simp [eq_false q1, eq_true q0, eq_false q2, eq_false q3]
        · simp [eq_false q1, eq_false q0]
  · have hcv' : covAll c A = false := by simpa using hcv
    rw [if_neg hcv]
    simp only [hcv', cond_false]
theorem try_eq {N : Nat} {c : Ch} (hc : ChainP c) (hcb : chainB c = true) (hs : SmCh c) (hN : 4194304 ≤ N) : ∀ j m A o, j ≤ c.2.1.length → j < m → nestFrom c A j → okB c o → spec_l7Try_R N m c (lastA c A j) (encB c o) = some (encB c (tryA c j A o), ())
  | 0, m, A, o, _, hm, hA, ho => by
    obtain ⟨m, rfl⟩ : ∃ q, m = q + 1 := ⟨m - 1, by omega⟩
    rw [spec_l7Try_R_succ]
    exact try_leaf hc hcb hs (fun s hs p hp hh => hA s (Nat.zero_le _) hs p hp hh) ho hN _
  | j + 1, m, A, o, hj, hm, hA, ho => by
    have hn := hc.n
    have h3 := hc.s3
    have hp := pow_le6 hn
    obtain ⟨m, rfl⟩ : ∃ q, m = q + 1 := ⟨m - 1, by omega⟩
    rw [spec_l7Try_R_succ]
    have hne : ¬ (((c.2.1.length - (j + 1) : Nat) : Int) = ((c.2.1.length : Nat) : Int)) := by omega
    simp only [spec_l7Try_F, len_eq, lastA_len, ieq_eq, hne, decide_false, cond_false]
    have hok : ∀ k, okB c (foldT (fun k o => if mayB c A j k then tryA c j (setA A j (bitS k)) o else o) o k) := foldT_ok (fun k o ho => by
      by_cases hm : mayB c A j k = true
      · rw [if_pos hm]; exact tryA_ok j _ o (nestFrom_set hA hm) ho
      · rw [if_neg hm]; exact ho) ho
    refine spec_l7Try_L1_run N (spec_l7Try_R N m) (fun _ => lastA c A (j + 1)) (fun k => (k : Int)) (fun _ => c) (fun k => encB c (foldT (fun k o => if mayB c A j k then tryA c j (setA A j (bitS k)) o else o) o k)) (fun _ => ([], (0, false))) (2 ^ c.1.length) (fun k hk kx => ?_) (fun kx => ?_) N (by omega)
    · have hrec : mayB c A j k = true → spec_l7Try_R N m c (pns (bitS k) c.1.length :: lastA c A (j + 1)) (encB c (foldT (fun k o => if mayB c A j k then tryA c j (setA A j (bitS k)) o else o) o k)) = some (encB c (tryA c j (setA A j (bitS k)) (foldT (fun k o => if mayB c A j k then tryA c j (setA A j (bitS k)) o else o) o k)), ()) := fun hmy => by
        rw [lastA_cons (by omega)]
        exact try_eq hc hcb hs hN j m _ _ (by omega) (by omega) (nestFrom_set hA hmy) (hok k)
      have hf : foldT (fun k o => if mayB c A j k then tryA c j (setA A j (bitS k)) o else o) o (k + 1) = if mayB c A j k = true then tryA c j (setA A j (bitS k)) (foldT (fun k o => if mayB c A j k then tryA c j (setA A j (bitS k)) o else o) o k) else foldT (fun k o => if mayB c A j k then tryA c j (setA A j (bitS k)) o else o) o k := rfl
      simp only [spec_l7Try_B1, ile_eq, len_eq, show (0 : Int) ≤ c.1.length by omega, decide_true, chk_true', ishl_one (show c.1.length ≤ 30 by omega), ilt_eq, Int.ofNat_lt, hk, cond_true, spec_l2Bits_eq (N := N) (show c.1.length ≤ 30 by omega) (show k < 1000000000 by omega) hN, Option.bind_some, lastA_len, ieq_eq, List.cons_append, List.nil_append, iadd_nat (show k < 4611686018427387904 by omega), chk_of (fitB_in (n := 1 + (c.2.1.length - (j + 1))) (b := 24) (by omega) (by omega)), hf]
      by_cases e : j + 1 = c.2.1.length
      · have hmy : mayB c A j k = true := by simp [mayB, e]
        rw [if_pos hmy, decide_eq_true (show (((c.2.1.length - (j + 1) : Nat) : Int)) = 0 by omega)]
        simp only [cond_true, hrec hmy, Option.bind_some]
      · rw [decide_eq_false (show ¬ (((c.2.1.length - (j + 1) : Nat) : Int)) = 0 by omega)]
        have e0 : gd (lastA c A (j + 1)) 0 [] = pns (A (j + 1)) c.1.length := by
          have := gd_map_range (fun i => pns (A (j + 1 + i)) c.1.length) ([] : List Int) (show 0 < c.2.1.length - (j + 1) by omega)
          exact this
        have hmy : mayB c A j k = subS (bitS k) (A (j + 1)) c.1.length := by simp [mayB, e]
        simp only [cond_false, chk_of (inB_in (i := 0) (n := c.2.1.length - (j + 1)) (by omega) (by omega)), e0, spec_l7Within_pns (bitS k) (A (j + 1)) (show c.1.length < 1000 by omega) hN, Option.bind_some]
        rw [← hmy]
        by_cases hb : mayB c A j k = true
        · rw [if_pos hb]
          simp only [hb, cond_true, hrec hb, Option.bind_some]
        · rw [if_neg hb]
          have hb' : mayB c A j k = false := by simpa using hb
          simp only [hb', cond_false]
    · simp only [spec_l7Try_B1, spec_l7Try_K1, ile_eq, len_eq, show (0 : Int) ≤ c.1.length by omega, decide_true, chk_true', ishl_one (show c.1.length ≤ 30 by omega), ilt_eq, Int.lt_irrefl, decide_false, cond_false]
      rfl
theorem both_best {c : Ch} (hc : ChainP c) : ∃ j R, j < allNo c ∧ bestNo c (allNo c) = some j ∧ covK c j = true ∧ cstK c j = outV c 0 ∧ tryA c c.2.1.length (fun _ _ => false) none = some R ∧ famL R c.2.1.length c.1.length = famK c j := by
  obtain ⟨j, h1, h2, h3, h4, h5⟩ := bestNo_end hc
  have hv : validA c (codeA c.2.1.length j) := ⟨codeA_nested _ _ _, h3⟩
  obtain ⟨R, r1, r2⟩ := tryA_min hv c.2.1.length (fun _ _ => false) none (Nat.le_refl _) (fun s a b => by omega)
  have hR := tryA_ok (c := c) c.2.1.length (fun _ _ => false) none (fun s a b => by omega) (fun A h => by cases h) R r1
  obtain ⟨k, k1, k2⟩ := code_nested hR.1
  have hk : covK c k = true := by show covAll c (codeA c.2.1.length k) = true; rw [(nestCost_ext k2).2.1]; exact hR.2
  have hb := h5 k k1 hk
  have e1 : betA c (codeA c.2.1.length k) (codeA c.2.1.length j) = false := by
    unfold betA
    rw [← sumD_many, ← sumD_many]
    exact hb
  rw [bet_ext k2] at e1
  exact ⟨j, R, h1, h2, h3, h4, r1, better_one e1 r2⟩
theorem impl_BestNested_eq {N : Nat} {c : Ch} (hs : SmCh c) (hN : 4194304 ≤ N) : (chainB c = false ∧ impl_BestNested N c = some (([], false), ())) ∨ (chainB c = true ∧ ∃ j, bestNo c (allNo c) = some j ∧ impl_BestNested N c = some ((famK c j, true), ())) := by
  simp only [impl_BestNested, impl_IsChain_eq hs hN, Option.bind_some, bif_not]
  cases h : chainB c with
  | false => exact .inl ⟨rfl, rfl⟩
  | true =>
    obtain ⟨j, _, h2, _⟩ := bestNo_end (chainP h)
    refine .inr ⟨rfl, j, h2, ?_⟩
    simp only [cond_true, impl_bestNested_eq (chainP h) h hs hN, Option.bind_some, h2, encP]
theorem spec_BestNested_eq {N : Nat} {c : Ch} (hs : SmCh c) (hN : 4194304 ≤ N) : (chainB c = false ∧ spec_BestNested N c = some (([], false), ())) ∨ (chainB c = true ∧ ∃ j, bestNo c (allNo c) = some j ∧ spec_BestNested N c = some ((famK c j, true), ())) := by
  simp only [spec_BestNested, spec_l7Good_eq hs hN, Option.bind_some, bif_not]
  cases h : chainB c with
  | false => exact .inl ⟨rfl, rfl⟩
  | true =>
    have hc := chainP h
    have hn := hc.n
    have h3 := hc.s3
    obtain ⟨j, R, j1, j2, j3, j4, r1, r2⟩ := both_best hc
    refine .inr ⟨rfl, j, j2, ?_⟩
    have ht := try_eq hc h hs hN c.2.1.length N (fun _ _ => false) none (Nat.le_refl _) (by omega) (fun s a b => by omega) (fun A h => by cases h)
    have e0 : lastA c (fun _ _ => false) c.2.1.length = [] := by simp [lastA]
    rw [e0, r1] at ht
    have ht' : spec_l7Try N c [] ([], (0, false)) = some ((famL R c.2.1.length c.1.length, (nestCost c R, true)), ()) := ht
    simp only [cond_true, ht', Option.bind_some, r2]
    have hlen : (famK c j).length = c.2.1.length := famL_len _ _ _
    have hsm : SmPl (famK c j) := famL_sm _ (by omega) (by omega)
    refine (spec_BestNested_L1_run N (fun _ => famK c j) (fun s => (s : Int)) (fun s => (famK c j).take s) c.2.1.length (fun s hs' kx => ?_) (fun kx => ?_) N (by omega))
    · have hr := hsm.r s (by omega)
      simp only [spec_BestNested_B1, ilt_eq, len_eq, hlen, Int.ofNat_lt, hs', decide_true, cond_true, inB_true hs', chk_true', Int.toNat_natCast, spec_l1Own, Nat.zero_add, chk_of (fitB_in (b := 8) hr (by omega)), Option.bind_some, chk_of (fitB_in (n := ((famK c j).take s).length + 1) (b := 24) (by rw [List.length_take]; omega) (by omega)), iadd_nat (show s < 4611686018427387904 by omega)]
      congr 1
      rw [List.take_add_one]
      simp [gd, List.getD_eq_getElem?_getD, hlen, hs']
    · simp only [spec_BestNested_B1, spec_BestNested_K1, ilt_eq, len_eq, hlen, Int.lt_irrefl, decide_false, cond_false]
      rw [← hlen, List.take_length]
def preN (a : Pl) : Nat → Nat
  | 0 => 0
  | s + 1 => preN a s + (gd a s []).length
def mkLL (a : Pl) (k : Int) (s : Nat) : Pl := (List.range a.length).map fun i => if i < s then mkL (gd a i []).length (k + (preN a i : Nat)) else gd a i []
theorem mkLL_len (a : Pl) (k : Int) (s : Nat) : (mkLL a k s).length = a.length := map_range_len _ _
theorem mkLL_gd (a : Pl) (k : Int) (s : Nat) {i : Nat} (h : i < a.length) : gd (mkLL a k s) i [] = if i < s then mkL (gd a i []).length (k + (preN a i : Nat)) else gd a i [] := gd_map_range _ [] h
structure TinyP (a : Pl) : Prop where
  l : a.length ≤ 1000
  r : ∀ s, s < a.length → (gd a s []).length ≤ 1000
theorem preN_le {a : Pl} (h : TinyP a) : ∀ s, s ≤ a.length → preN a s ≤ 1000 * s
  | 0, _ => Nat.zero_le _
  | s + 1, hs => by have := preN_le h s (by omega); have := h.r s (by omega); simp only [preN]; omega
theorem laws_markIntSS_eq {N : Nat} {a : Pl} {k : Int} (h : TinyP a) (h0 : 0 ≤ k) (h1 : k ≤ 100000000000) (hN : 4194304 ≤ N) : laws_markIntSS N a k = some (k + (preN a a.length : Nat), mkLL a k a.length) := by
  have hl := h.l
  have e0 : mkLL a k 0 = a := gdl_ext (mkLL_len _ _ _) fun i hi => by rw [mkLL_len] at hi; rw [mkLL_gd a k 0 hi, if_neg (by omega)]
  have key := laws_markIntSS_L1_run N (fun s => k + (preN a s : Nat)) (fun s => (s : Int)) (fun s => mkLL a k s) a.length (res_ := some (k + (preN a a.length : Nat), mkLL a k a.length)) (fun s hs kx => ?_) (fun kx => ?_) N (by omega)
  · simp only [preN, e0] at key
    rw [show k + ((0 : Nat) : Int) = k by omega] at key
    exact key
  · have hp := preN_le h s (by omega)
    have hr := h.r s hs
    have e1 : gd (mkLL a k s) s [] = gd a s [] := by rw [mkLL_gd a k s hs, if_neg (by omega)]
    simp only [laws_markIntSS_B1, ilt_eq, len_eq, mkLL_len, Int.ofNat_lt, hs, decide_true, cond_true, inB_true hs, chk_true', Int.toNat_natCast, e1, laws_markIntS_eq (a := gd a s []) (k := k + (preN a s : Nat)) (by omega) (by omega) (by omega) hN, Option.bind_some, iadd_nat (show s < 4611686018427387904 by omega)]
    have e2 : k + (preN a s : Nat) + ((gd a s []).length : Nat) = k + ((preN a (s + 1) : Nat) : Int) := by simp only [preN]; omega
    have e3 : List.set (mkLL a k s) s (mkL (gd a s []).length (k + (preN a s : Nat))) = mkLL a k (s + 1) := gdl_ext (by simp [mkLL_len]) fun i hi => by
      simp only [List.length_set, mkLL_len] at hi
      rw [gdl_set (by rw [mkLL_len]; exact hs), mkLL_gd a k s hi, mkLL_gd a k (s + 1) hi]
      by_cases e : i = s
      · subst e; rw [if_pos rfl, if_pos (by omega)]
      · rw [if_neg e]
        by_cases e2 : i < s
        · rw [if_pos e2, if_pos (by omega)]
        · rw [if_neg e2, if_neg (by omega)]
    rw [e2, e3]
  · simp only [laws_markIntSS_B1, laws_markIntSS_K1, ilt_eq, len_eq, mkLL_len, Int.lt_irrefl, decide_false, cond_false]
theorem laws_heldIntSS_eq {N : Nat} {a : Pl} {k : Int} (h : TinyP a) (h0 : 0 ≤ k) (h1 : k ≤ 100000000000) (hN : 4194304 ≤ N) : laws_heldIntSS N (mkLL a k a.length) k = some (k + (preN a a.length : Nat), ()) := by
  have hl := h.l
  have key := laws_heldIntSS_L1_run N (fun _ => mkLL a k a.length) (fun s => k + (preN a s : Nat)) (fun s => (s : Int)) a.length (res_ := some (k + (preN a a.length : Nat), ())) (fun s hs kx => ?_) (fun kx => ?_) N (by omega)
  · simp only [preN] at key
    rw [show k + ((0 : Nat) : Int) = k by omega] at key
    exact key
  · have hp := preN_le h s (by omega)
    have hr := h.r s hs
    have e1 : gd (mkLL a k a.length) s [] = mkL (gd a s []).length (k + (preN a s : Nat)) := by rw [mkLL_gd a k _ hs, if_pos hs]
    have e2 : k + (preN a s : Nat) + ((gd a s []).length : Nat) = k + ((preN a (s + 1) : Nat) : Int) := by simp only [preN]; omega
    simp only [laws_heldIntSS_B1, ilt_eq, len_eq, mkLL_len, Int.ofNat_lt, hs, decide_true, cond_true, inB_true hs, chk_true', Int.toNat_natCast, e1, laws_heldIntS_eq (n := (gd a s []).length) (k := k + (preN a s : Nat)) (by omega) (by omega) (by omega) hN, Option.bind_some, e2, show ¬ k + ((preN a (s + 1) : Nat) : Int) < 0 by omega, decide_false, cond_false, iadd_nat (show s < 4611686018427387904 by omega)]
  · simp only [laws_heldIntSS_B1, laws_heldIntSS_K1, ilt_eq, len_eq, mkLL_len, Int.lt_irrefl, decide_false, cond_false]
theorem markChain_run {N : Nat} {c : Ch} {k : Int} (hc : SmCh c) (h0 : 0 ≤ k) (h1 : k ≤ 900000000000) (hN : 4194304 ≤ N) : ∃ r c', laws_markChain N c k = some (r, c') ∧ k ≤ r ∧ r ≤ k + 20000000 := by
  obtain ⟨r1, a1, m1, b1, b1'⟩ := markIntS_run (N := N) hc.s0 h0 (by omega) hN
  obtain ⟨r2, a2, m2, b2, b2'⟩ := markIntS_run (N := N) (k := r1) hc.s1 (by omega) (by omega) hN
  obtain ⟨r3, a3, m3, b3, b3'⟩ := markIntS_run (N := N) (k := r2) hc.s2 (by omega) (by omega) hN
  exact ⟨r3, (a1, (a2, a3)), by simp only [laws_markChain, m1, m2, m3, Option.bind_some], by omega, by omega⟩
theorem TinyP.sm {a : Pl} (h : TinyP a) : SmPl a := ⟨by have := h.l; omega, fun s hs => by have := h.r s hs; omega⟩
theorem laws_FnExactBestNested_law (c : Ch) (h : RngCh c) : ∃ N, laws_FnExactBestNested N c = some (true, ()) := by
  refine ⟨4194304, ?_⟩
  simp only [laws_FnExactBestNested, ilt_eq, ine_eq]
  obtain ⟨r1, e1, q1⟩ := laws_szChain_eq 4194304 h (show (0 : Int) ≤ 1048576 by omega) (by omega)
  rcases q1 with q1 | ⟨q1, _, hs⟩
  · simp [e1, q1]
  · have hn := Nat.le_refl 4194304
    have n0 : ¬ r1 < 0 := by omega
    have hex : ∃ (l : Pl) (b : Bool), TinyP l ∧ impl_BestNested 4194304 c = some ((l, b), ()) ∧ spec_BestNested 4194304 c = some ((l, b), ()) := by
      rcases impl_BestNested_eq hs hn with ⟨hb, hi⟩ | ⟨hb, j, hj, hi⟩
      · rcases spec_BestNested_eq hs hn with ⟨_, hsp⟩ | ⟨hb2, _⟩
        · exact ⟨[], false, ⟨by simp, fun s hs => by simp at hs⟩, hi, hsp⟩
        · rw [hb] at hb2; cases hb2
      · rcases spec_BestNested_eq hs hn with ⟨hb2, _⟩ | ⟨_, j', hj', hsp⟩
        · rw [hb] at hb2; cases hb2
        · rw [hj] at hj'; cases hj'
          have hc := chainP hb
          have hlen : (famK c j).length = c.2.1.length := famL_len _ _ _
          refine ⟨famK c j, true, ⟨by have := hc.s3; omega, fun s hs' => ?_⟩, hi, hsp⟩
          rw [hlen] at hs'
          have : gd (famK c j) s [] = pns (codeA c.2.1.length j s) c.1.length := famL_gd _ _ _ hs'
          rw [this]
          have := cnt_le (codeA c.2.1.length j s) c.1.length
          have := hc.n
          unfold cnt at *; omega
    obtain ⟨l, b, hl, hi, hsp⟩ := hex
    obtain ⟨r3, c3, e3, b3, _⟩ := markChain_run (N := 4194304) (k := 1) hs (by omega) (by omega) hn
    have n3 : ¬ r3 < 0 := by omega
    have hmk := laws_markIntSS_eq (N := 4194304) (k := 1) hl (by omega) (by omega) hn
    have hhd := laws_heldIntSS_eq (N := 4194304) (k := 1) hl (by omega) (by omega) hn
    have n4 : ¬ (1 : Int) + (preN l l.length : Nat) < 0 := by omega
    simp [e1, n0, laws_toChain_eq hs hn, hi, hsp, laws_eqChain_refl hs hn, laws_eqIntSS_refl hl.sm hn, e3, n3, hmk, hhd, n4, Go.Rx.beq]
end Go.Rx.Px
