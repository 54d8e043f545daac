/- This text proves what the function that compares two sets of periods answers, by a walk through its code, and the contract of the library's sort at it; no condition beyond those each theorem states. -/
import Derived.Test.YtndchhdnmnfnlaaGreatDoorProg
import Derived.Test.YtndchhdnmnfnlaaGreatDoorRxe
import Derived.Test.YtndchhdnmnfnlaaGreatDoorSrtFnExactRunScript
import Derived.WalkKit
import Derived.Deep.LoopGhost
import Derived.Deep.Draws
import Derived.Lib.Walk
import Derived.BigCall
import Derived.BigGuard
set_option linter.unusedVariables false
set_option linter.unusedSimpArgs false
set_option maxHeartbeats 2000000
namespace Go.Proofs.YtndchhdnmnfnlaaGreatDoor.WkFnExactRunScript
open Go.RowKit Go.Lib Go.Rx Go.Proofs
theorem isNaN57 (x : Int) (w : World) : Calls Go.Proofs.Tryz.prog 278 #[.int .i64 x] w fun e w' => e = .returned (.bool false) ∧ w' = w := by
  go_enter Go.Proofs.Tryz.func278, Go.Proofs.Tryz.ntmps278
  go_wp2
  go_ret
  exact ⟨rfl, rfl⟩
def cmpI (x y : Int) : Int := if x < y then -1 else if y < x then 1 else 0
theorem cmp54 (x y : Int) (w : World) : Calls Go.Proofs.Tryz.prog 263 #[.int .i64 x, .int .i64 y] w fun e w' => e = .returned (.int .i64 (cmpI x y)) ∧ w' = w := by
  go_enter Go.Proofs.Tryz.func263, Go.Proofs.Tryz.ntmps263
  go_wp2_with (go_at_call 278; refine (isNaN57 _ _).mono ?_; rintro e w' ⟨rfl, hw⟩; rw [hw])
  all_goals (go_ret; refine ⟨?_, rfl⟩; unfold cmpI; (repeat' split) <;> first | rfl | (exfalso; omega))
theorem lexC_step {xs ys : List Int} {k : Nat} (h1 : k < xs.length) (h2 : k < ys.length) : Px.lexC (xs.drop k) (ys.drop k) = if cmpI (xs.getD k 0) (ys.getD k 0) = 0 then Px.lexC (xs.drop (k + 1)) (ys.drop (k + 1)) else cmpI (xs.getD k 0) (ys.getD k 0) := by
  rw [List.drop_eq_getElem_cons h1, List.drop_eq_getElem_cons h2]
  simp only [Px.lexC, cmpI, List.getD_eq_getElem?_getD, List.getElem?_eq_getElem h1, List.getElem?_eq_getElem h2, Option.getD_some]
  by_cases q1 : xs[k] < ys[k]
  · simp [q1]
  · by_cases q2 : ys[k] < xs[k]
    · simp [q1, q2]
    · simp [q1, q2]
theorem compare48 (b1 o1 n c b2 o2 m d : Nat) (a1 a2 : Option Addr) (xs ys : List Int) (w : World) (hx : Aside (n = xs.length)) (hy : Aside (m = ys.length)) (hbig : n ≤ 1000000) (hbig2 : m ≤ 1000000)
    (ha1 : 0 < n → a1 = some ⟨b1, o1, none⟩) (ha2 : 0 < m → a2 = some ⟨b2, o2, none⟩)
    (hc1 : ∀ j, j < n → w.cell? ⟨b1, o1 + j, none⟩ = some (.int .i64 (xs.getD j 0))) (hc2 : ∀ j, j < m → w.cell? ⟨b2, o2 + j, none⟩ = some (.int .i64 (ys.getD j 0))) :
    Calls Go.Proofs.Tryz.prog 232 #[.slice a1 n c, .slice a2 m d] w fun e w' => e = .returned (.int .i64 (Px.lexC xs ys)) ∧ w' = w := by
  go_enter Go.Proofs.Tryz.func232, Go.Proofs.Tryz.ntmps232
  go_wp2
  go_loopg [11] n (fun g s11 wr => ∃ k : Nat, k ≤ n ∧ k ≤ m ∧ n - k ≤ g ∧ s11 = .int .i64 k ∧ wr = w ∧ Px.lexC (xs.drop k) (ys.drop k) = Px.lexC xs ys)
  case atStart => exact ⟨0, Nat.zero_le _, Nat.zero_le _, by omega, rfl, rfl, rfl⟩
  case round =>
    obtain ⟨k, hk, hkm, hg, rfl, rfl, heq⟩ := hrel
    have A : Aside (Px.lexC (xs.drop k) (ys.drop k) = Px.lexC xs ys) := heq
    by_cases hlt : k < n
    · obtain rfl := ha1 (by omega)
      have g1 := hc1 k hlt
      by_cases hlm : k < m
      · obtain rfl := ha2 (by omega)
        have g2 := hc2 k hlm
        clear heq hc1 hc2 ha1 ha2
        have st := lexC_step (xs := xs) (ys := ys) (k := k) (by have := hx.out; omega) (by have := hy.out; omega)
        generalize hxk : xs.getD k 0 = x at g1 st
        generalize hyk : ys.getD k 0 = y at g2 st
        obtain ⟨q, hq⟩ : ∃ q, cmpI x y = q := ⟨_, rfl⟩
        rw [hq] at st
        have S : Aside (Px.lexC (xs.drop k) (ys.drop k) = if q = 0 then Px.lexC (xs.drop (k + 1)) (ys.drop (k + 1)) else q) := st
        have Q : Aside (cmpI x y = q) := hq
        clear st hxk hyk hq
        by_cases hc : q = 0
        · go_wp2_with (go_at_call 263; refine (cmp54 _ _ _).mono ?_; rintro e w' ⟨rfl, hw⟩; rw [hw, Q.out])
          go_roundg (n - (k + 1))
          case measure => omega
          case rel =>
            refine ⟨k + 1, by omega, by omega, by omega, by go_num, rfl, ?_⟩
            rw [← A.out, S.out, if_pos hc]
        · go_wp2_with (go_at_call 263; refine (cmp54 _ _ _).mono ?_; rintro e w' ⟨rfl, hw⟩; rw [hw, Q.out])
          go_ret
          refine ⟨?_, rfl⟩
          rw [← A.out, S.out, if_neg hc]
          rfl
      · clear heq hc1 hc2 ha1 ha2
        have : k = m := by omega
        subst this
        go_wp2
        go_ret
        refine ⟨?_, rfl⟩
        rw [← A.out, List.drop_eq_getElem_cons (show k < xs.length by have := hx.out; omega), List.drop_eq_nil_of_le (show ys.length ≤ k by have := hy.out; omega)]
        rfl
    · have : k = n := by omega
      subst this
      clear heq hc1 hc2 ha1 ha2
      by_cases hlm : k < m
      · go_wp2
        go_ret
        refine ⟨?_, rfl⟩
        rw [← A.out, List.drop_eq_nil_of_le (show xs.length ≤ k by have := hx.out; omega), List.drop_eq_getElem_cons (show k < ys.length by have := hy.out; omega)]
        rfl
      · go_wp2
        go_ret
        refine ⟨?_, rfl⟩
        rw [← A.out, List.drop_eq_nil_of_le (show xs.length ≤ k by have := hx.out; omega), List.drop_eq_nil_of_le (show ys.length ≤ k by have := hy.out; omega)]
        rfl
theorem closure50 (b1 o1 n c b2 o2 m d : Nat) (a1 a2 : Option Addr) (xs ys : List Int) (w : World) (hx : Aside (n = xs.length)) (hy : Aside (m = ys.length)) (hbig : n ≤ 1000000) (hbig2 : m ≤ 1000000)
    (ha1 : 0 < n → a1 = some ⟨b1, o1, none⟩) (ha2 : 0 < m → a2 = some ⟨b2, o2, none⟩)
    (hc1 : ∀ j, j < n → w.cell? ⟨b1, o1 + j, none⟩ = some (.int .i64 (xs.getD j 0))) (hc2 : ∀ j, j < m → w.cell? ⟨b2, o2 + j, none⟩ = some (.int .i64 (ys.getD j 0))) :
    Calls Go.Proofs.Tryz.prog 267 #[.slice a1 n c, .slice a2 m d] w fun e w' => e = .returned (.int .i64 (Px.setC xs ys)) ∧ w' = w := by
  have hcon := compare48 b1 o1 n c b2 o2 m d a1 a2 xs ys w hx hy hbig hbig2 ha1 ha2 hc1 hc2
  clear hc1 hc2 ha1 ha2
  by_cases h : (n : Int) = (m : Int)
  · go_enter Go.Proofs.Tryz.func267, Go.Proofs.Tryz.ntmps267
    go_wp2_with (go_at_call 232; refine hcon.mono ?_; rintro e w' ⟨rfl, hw⟩; rw [hw])
    go_ret
    refine ⟨?_, rfl⟩
    rw [Px.setC, if_pos (by rw [← hx.out, ← hy.out]; omega)]
    rfl
  · clear hcon
    have h2 : wrap64 ((n : Int) - (m : Int)) = (n : Int) - (m : Int) := by unfold wrap64; omega
    go_enter Go.Proofs.Tryz.func267, Go.Proofs.Tryz.ntmps267
    go_wp2
    go_ret
    refine ⟨?_, rfl⟩
    rw [Px.setC, if_neg (by rw [← hx.out, ← hy.out]; omega), ← hx.out, ← hy.out]
    rfl
theorem closure (va vb : Value) (xs ys : List Int) (w : World) (h1 : RowAt w va xs) (h2 : RowAt w vb ys) (l1 : xs.length ≤ 1000000) (l2 : ys.length ≤ 1000000) : Calls Go.Proofs.Tryz.prog 267 #[va, vb] w fun e w' => e = .returned (.int .i64 (Px.setC xs ys)) ∧ w' = w := by
  obtain ⟨A, c, rfl, p1, p2⟩ := h1
  obtain ⟨B, d, rfl, q1, q2⟩ := h2
  have key : ∀ (A : Option Addr) (xs : List Int), (xs ≠ [] → ∃ b o, A = some ⟨b, o, none⟩) → (∀ b o, A = some ⟨b, o, none⟩ → ∀ j, j < xs.length → w.cell? ⟨b, o + j, none⟩ = some (.int .i64 (xs.getD j 0))) → ∃ b o, (0 < xs.length → A = some ⟨b, o, none⟩) ∧ ∀ j, j < xs.length → w.cell? ⟨b, o + j, none⟩ = some (.int .i64 (xs.getD j 0)) := fun A xs r1 r2 => by
    by_cases h : xs = []
    · exact ⟨0, 0, fun hh => by rw [h] at hh; simp at hh, fun j hj => by rw [h] at hj; simp at hj⟩
    · obtain ⟨b, o, hA⟩ := r1 h
      exact ⟨b, o, fun _ => hA, r2 b o hA⟩
  obtain ⟨b1, o1, u1, u2⟩ := key A xs p1 p2
  obtain ⟨b2, o2, v1, v2⟩ := key B ys q1 q2
  exact closure50 b1 o1 xs.length c b2 o2 ys.length d A B xs ys w rfl rfl l1 l2 u1 v1 u2 v2
theorem sort_less (va vb : Value) (xs ys : List Int) (w : World) (h1 : RowAt w va xs) (h2 : RowAt w vb ys) (l1 : xs.length ≤ 1000000) (l2 : ys.length ≤ 1000000) : Calls Go.Proofs.Tryz.prog 267 #[va, vb] w fun e w' => e = .returned (.int .i64 (Px.setC xs ys)) ∧ w' = w := closure va vb xs ys w h1 h2 l1 l2
theorem sort_none (p : Option Addr) (cap : Nat) (fv : Value) (w : World) : Calls Go.Proofs.Tryz.prog 266 #[.slice p 0 cap, fv] w fun e1 w' => e1 = .returned (.tuple #[]) ∧ w' = w :=
  AnyF.slices_SortFunc_none (P := Go.Proofs.Tryz.prog) (ρ := Go.Proofs.Tryz.sortL_ren) { Go.Proofs.Tryz.sortL with } p cap fv w
theorem sort_total (k : Nat) (enc : Fin (k + 1) → Value) (h1 : OneCell enc) (cf : Fin (k + 1) → Fin (k + 1) → Int) (hO : Go.Sort.SWO (ltOf cf)) (blk cap : Nat) (d : Array (Fin (k + 1))) (w : World) (hc : CmpLays1 Go.Proofs.Tryz.prog 267 #[] enc cf blk 0 d.size w) (hH : Go.Sort.Holds enc w blk 0 d) (hb : blk < w.heap.size) (hs : d.size < 4611686018427387904) (hT : ∀ x y, ltOf cf x y = false → ltOf cf y x = false → x = y) :
    Calls Go.Proofs.Tryz.prog 266 #[.slice (some ⟨blk, 0, none⟩) d.size cap, .func (.func 267) #[] #[]] w fun e1 w' => e1 = .returned (.tuple #[]) ∧ ∃ n os, w' = Go.Proofs.sortWorld enc w blk 0 n (d.toList.mergeSort fun x y => !(ltOf cf) y x).toArray os :=
  Any.slices_SortFunc_total Go.Proofs.Tryz.sortL enc h1 cf hO 267 #[] blk 0 cap d w (enters_of Go.Proofs.Tryz.func267 (by kernel_rfl) rfl) hc hH hb hs hT
end Go.Proofs.YtndchhdnmnfnlaaGreatDoor.WkFnExactRunScript
