/- This text proves what the library's slices.Concat answers at rows of numbers, by a walk through its code; no condition beyond those each theorem states. -/
import Derived.Test.YtjfmillogcillaaGreatDoorProg
import Derived.Test.YtjfmillogcillaaGreatDoorRxd
import Derived.Test.YtjfmillogcillaaGreatDoorGroFnCases
import Derived.WalkKit
import Derived.Deep.LoopGhost
import Derived.Deep.Draws
import Derived.Lib.Walk
import Derived.BigCall
import Derived.BigGuard
set_option linter.unusedVariables false
set_option linter.unusedSimpArgs false
set_option maxHeartbeats 2000000
namespace Go.Proofs.YtjfmillogcillaaGreatDoor.WkFnCases
open Go.RowKit Go.Lib Go.Rx Go.Proofs
theorem int_info0 : (Go.Proofs.Tryz.prog.info? 3).map (fun i => (i.zero, i.size, i.bytes)) = some (some (.int .i64 0), 1, 8) := by kernel_rfl
theorem int_info : ∃ i0, Go.Proofs.Tryz.prog.info? 3 = some i0 ∧ i0.zero = some (.int .i64 0) ∧ i0.size = 1 ∧ i0.bytes = 8 := by
  have h := int_info0
  cases hh : Go.Proofs.Tryz.prog.info? 3 with
  | none => rw [hh] at h; cases h
  | some i =>
    rw [hh] at h
    simp only [Option.map_some, Option.some.injEq, Prod.mk.injEq] at h
    exact ⟨i, rfl, h.1, h.2.1, h.2.2⟩
theorem int_slice : Go.Proofs.Tryz.prog.underlying 24 = some (.slice 3) := by kernel_rfl
theorem cat_grow (n : Nat) (hn : n ≤ 1000000) (w : World) : Calls Go.Proofs.Tryz.prog 54 #[.slice none 0 0, .int .i64 n] w fun e1 w' => ∃ v, e1 = .returned v ∧ w'.ownsRow 0 3 1 v 0 [] ∧ (∀ b, v.ownBlock = some b → w.heap.size ≤ b) ∧ Below w.heap.size w w' := by
  by_cases h : n = 0
  · subst h
    refine (Any8.slices_Grow_room Go.Proofs.Tryz.growL none 0 0 0 w (by omega) (by omega) (by omega) (by omega)).mono ?_
    rintro e w' ⟨rfl, rfl⟩
    exact ⟨_, rfl, World.ownsRow_nil _ _ _ _, by simp [Value.ownBlock], Below.refl _ _⟩
  · obtain ⟨i0, q1, q2, q3, q4⟩ := int_info
    have hk := grownCap_le_maxLen w (0 + n) 0 3 (by unfold maxLen; omega)
    refine (Any8.slices_Grow_grow Go.Proofs.Tryz.growL i0 (.int .i64 0) q1 q2 (by omega) none 0 0 n [] w (by omega) (by omega) (by rw [q4]; omega) (by omega) (by simp) (by simp) (by simp)).mono ?_
    rintro e w' ⟨rfl, rfl⟩
    refine ⟨_, rfl, World.ownsRow_made w.drew _ _ (Nat.zero_le _) hk ?_, ?_, ?_⟩
    · have hg := grownCap_ge w (0 + n) 0 3
      have hz : (Value.int .i64 0).cells.size = 1 := rfl
      simp only [Array.size_append, size_zeroCells, hz, List.size_toArray, List.length_nil]
      show _ = grownCap w (0 + n) 0 3 * 1
      show 0 + (0 + n - 0) * 1 + (grownCap w (0 + n) 0 3 - (0 + n)) * 1 = grownCap w (0 + n) 0 3 * 1
      omega
    · intro b hb
      simp only [Value.ownBlock, Option.some.injEq] at hb
      omega
    · exact ((Below.refl _ w).drew).alloc (Nat.le_refl _) _
def totC (xs : List (List Int)) (k : Nat) : Nat := (xs.take k).flatten.length
theorem totC_succ {xs : List (List Int)} {k : Nat} (h : k < xs.length) : totC xs (k + 1) = totC xs k + (xs.getD k []).length := by
  unfold totC
  rw [List.take_add_one, List.flatten_append, List.length_append, List.getElem?_eq_getElem h, List.getD_eq_getElem?_getD, List.getElem?_eq_getElem h]
  simp
theorem totC_le {xs : List (List Int)} (k : Nat) : totC xs k ≤ xs.flatten.length := by
  unfold totC
  conv => rhs; rw [← List.take_append_drop k xs, List.flatten_append, List.length_append]
  omega
theorem flat_succ {xs : List (List Int)} {k : Nat} (h : k < xs.length) : (xs.take (k + 1)).flatten = (xs.take k).flatten ++ xs.getD k [] := by
  rw [List.take_add_one, List.flatten_append, List.getElem?_eq_getElem h, List.getD_eq_getElem?_getD, List.getElem?_eq_getElem h]
  simp
theorem Aside.mk' {p : Prop} (h : p) : Aside p := h
theorem cat_walk (A : Option Addr) (c : Nat) (va : Nat → Value) (xs : List (List Int)) (w : World) (h1 : xs.length ≤ 1000000) (h2 : xs.flatten.length ≤ 1000000) (h3 : xs ≠ [] → ∃ b o, A = some ⟨b, o, none⟩ ∧ b < w.heap.size ∧ ∀ i, i < xs.length → w.cell? ⟨b, o + i, none⟩ = some (va i)) (h4 : ∀ i, i < xs.length → RowC w.heap.size w (va i) (xs.getD i [])) :
    Calls Go.Proofs.Tryz.prog 31 #[.slice A xs.length c] w fun e1 w' => ∃ v, e1 = .returned v ∧ w'.ownsRow 0 3 1 v xs.flatten.length (xs.flatten.map (Value.int .i64)) ∧ (∀ b, v.ownBlock = some b → w.heap.size ≤ b) ∧ Below w.heap.size w w' := by
  have H2 : Aside (xs.flatten.length ≤ 1000000) := h2
  have H3 : Aside (xs ≠ [] → ∃ b o, A = some ⟨b, o, none⟩ ∧ b < w.heap.size ∧ ∀ i, i < xs.length → w.cell? ⟨b, o + i, none⟩ = some (va i)) := h3
  have H4 : Aside (∀ i, i < xs.length → RowC w.heap.size w (va i) (xs.getD i [])) := h4
  clear h2 h3 h4
  obtain ⟨n, hn⟩ : ∃ n, n = xs.length := ⟨_, rfl⟩
  have Hn : Aside (n = xs.length) := hn
  obtain ⟨Q, hQ⟩ : ∃ Q : Ending → World → Prop, Q = fun e1 w' => ∃ v, e1 = .returned v ∧ w'.ownsRow 0 3 1 v xs.flatten.length (xs.flatten.map (Value.int .i64)) ∧ (∀ b, v.ownBlock = some b → w.heap.size ≤ b) ∧ Below w.heap.size w w' := ⟨_, rfl⟩
  rw [← hQ, ← hn]
  rw [← hn] at h1
  have HQ : Aside (Q = fun e1 w' => ∃ v, e1 = .returned v ∧ w'.ownsRow 0 3 1 v xs.flatten.length (xs.flatten.map (Value.int .i64)) ∧ (∀ b, v.ownBlock = some b → w.heap.size ≤ b) ∧ Below w.heap.size w w') := hQ
  clear hQ hn
  go_enter Go.Proofs.Tryz.func31, Go.Proofs.Tryz.ntmps31
  go_wp2
  go_loopg [3, 11] n (fun g s3 s11 wr => ∃ k : Nat, k ≤ n ∧ n - k ≤ g ∧ s11 = .int .i64 k ∧ s3 = .int .i64 (totC xs k) ∧ wr = w)
  case atStart => exact ⟨0, Nat.zero_le _, by omega, rfl, rfl, rfl⟩
  case round =>
    obtain ⟨k, hk, hg, rfl, rfl, hw⟩ := hrel
    have hw' := hw.symm
    clear hw
    subst hw'
    by_cases hlt : k < n
    · have hltx : k < xs.length := by rw [← Hn.out]; exact hlt
      obtain ⟨b, o, rfl, hb, hcell⟩ := H3.out (by intro h; rw [h] at hltx; simp at hltx)
      obtain ⟨B, cap, hv, _, _⟩ := H4.out k hltx
      have hc := hcell k hltx
      rw [hv] at hc
      have hs := totC_succ hltx
      have hle := totC_le (xs := xs) (k + 1)
      have h2 := H2.out
      have S : Aside (totC xs (k + 1) = totC xs k + (xs.getD k []).length) := hs
      obtain ⟨l, hl⟩ : ∃ l, l = (xs.getD k []).length := ⟨_, rfl⟩
      rw [← hl] at hc hs
      have L : Aside (l = (xs.getD k []).length) := hl
      obtain ⟨t, ht⟩ : ∃ t, t = totC xs k := ⟨_, rfl⟩
      rw [← ht] at hs ⊢
      have T : Aside (t = totC xs k) := ht
      have hbt : t + l ≤ 1000000 := by omega
      clear hs hle h2 hl ht hv hcell hltx
      go_wp2
      go_roundg (n - (k + 1))
      case measure => omega
      case rel => exact ⟨k + 1, by omega, by omega, by go_num, by rw [S.out, ← L.out, ← T.out]; go_num, rfl⟩
    · have : k = n := by omega
      subst this
      have hle := totC_le (xs := xs) k
      have h2 := H2.out
      obtain ⟨t, ht⟩ : ∃ t, t = totC xs k := ⟨_, rfl⟩
      rw [← ht] at hle ⊢
      have hbt : t ≤ 1000000 := by omega
      clear hle h2 ht
      go_wp2_with (go_at_call 54; refine (cat_grow t hbt _).mono ?_; rintro e w1 ⟨v1, rfl, hv1, hv2, hv3⟩; have V1 := Aside.mk' hv1; have V2 := Aside.mk' hv2; have V3 := Aside.mk' hv3; clear hv1 hv2 hv3)
      go_loopg [6, 27] k (fun g s6 s27 w2 => ∃ j : Nat, j ≤ k ∧ k - j ≤ g ∧ s27 = .int .i64 j ∧ Aside (w2.ownsRow 0 3 1 s6 (totC xs j) ((xs.take j).flatten.map (Value.int .i64))) ∧ Aside (∀ b, s6.ownBlock = some b → w.heap.size ≤ b) ∧ Aside (Below w.heap.size w w2))
      case atStart => exact ⟨0, Nat.zero_le _, by omega, rfl, V1, V2, V3⟩
      case round =>
        obtain ⟨j, hj, hg2, rfl, R1, R2, R3⟩ := hrel
        clear V1 V2 V3
        by_cases hlt2 : j < k
        · have hltx : j < xs.length := by rw [← Hn.out]; exact hlt2
          obtain ⟨b, o, rfl, hb, hcell⟩ := H3.out (by intro h; rw [h] at hltx; simp at hltx)
          obtain ⟨B, cap, hv, hB0, hB⟩ := rowC_kept (H4.out j hltx) R3.out.block
          have hc := hcell j hltx
          rw [← World.cell?_of_block (w := w) (a := ⟨b, o + j, none⟩) (R3.out.block b hb), hv] at hc
          have hs := totC_succ hltx
          have hle := totC_le (xs := xs) (j + 1)
          have h2 := H2.out
          have S : Aside (totC xs (j + 1) = totC xs j + (xs.getD j []).length) := hs
          have N : Aside (∀ ad, B = some ad → ∀ i u, ((xs.getD j []).map (Value.int .i64))[i]? = some u → wr.cell? (ad.add i) = some u) := rowC_news hB
          have B0 : Aside (B = none → (xs.getD j []).length = 0 ∧ cap = 0) := hB0
          have hsum : totC xs j + (xs.getD j []).length ≤ 1000000 := by omega
          have HS : Aside (totC xs j + (xs.getD j []).length ≤ 1000000) := hsum
          clear hs hle h2 hB hB0 hv hcell hltx hsum
          go_wp2_with (at_builtin; refine wpList_append3 rfl _ _ 24 rfl 3 _ (.int .i64 0) 1 8 int_slice int_info.choose_spec.1 int_info.choose_spec.2.1 int_info.choose_spec.2.2.1 int_info.choose_spec.2.2.2 rfl (by omega) _ _ _ rfl R1.out B (xs.getD j []).length cap B0.out ((xs.getD j []).map (Value.int .i64)) rfl (by simp) N.out (by simp [Value.oneCell']) (by have := HS.out; omega) (by have := HS.out; unfold maxLen; omega) ?_; intro v2 w3 g1 g2 g3; have G1 := Aside.mk' g1; have G2 := Aside.mk' g2; have G3 := Aside.mk' g3; clear g1 g2 g3)
          go_roundg (k - (j + 1))
          case measure => omega
          case rel =>
            have hltx : j < xs.length := by rw [← Hn.out]; exact hlt2
            refine ⟨j + 1, by omega, by omega, by go_num, ?_, ?_, ?_⟩
            · show w3.ownsRow 0 3 1 v2 (totC xs (j + 1)) _
              rw [S.out, flat_succ hltx, List.map_append]
              exact G1.out
            · intro b2 hb2
              rcases G3.out with h | ⟨h, _⟩
              · exact R2.out b2 (h ▸ hb2)
              · rw [h] at hb2
                cases hb2
                exact R3.out.size
            · exact R3.out.grown G2.out R3.out.size R2.out
        · have : j = k := by omega
          subst this
          go_wp2
          rw [HQ.out]
          have hkx := Hn.out
          have e1 : xs.take j = xs := by rw [hkx, List.take_length]
          have r1 := R1.out
          unfold totC at r1
          rw [e1] at r1
          exact ⟨_, rfl, r1, R2.out, R3.out⟩
end Go.Proofs.YtjfmillogcillaaGreatDoor.WkFnCases
