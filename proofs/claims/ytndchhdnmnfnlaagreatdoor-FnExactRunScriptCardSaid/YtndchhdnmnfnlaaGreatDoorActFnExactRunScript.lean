/- This text proves what the function that tells a command's act answers, by a walk through its code; no condition beyond those each theorem states. -/
import Derived.Test.YtndchhdnmnfnlaaGreatDoorProg
import Derived.Test.YtndchhdnmnfnlaaGreatDoorRxe
import Derived.WalkKit
import Derived.Deep.LoopGhost
import Derived.Deep.Draws
import Derived.Lib.Walk
import Derived.Lib.SlicesS
import Derived.Laws.CopyRow
import Derived.BigCall
import Derived.BigGuard
import Derived.Handy
set_option linter.unusedVariables false
set_option linter.unusedSimpArgs false
set_option maxHeartbeats 4000000
set_option maxRecDepth 100000
namespace Go.Proofs.YtndchhdnmnfnlaaGreatDoor.WkFnExactRunScript
open Go.RowKit Go.Lib Go.Rx Go.Proofs
theorem words_cells (w : World) (o : Obj) (t : Nat) : ∀ j, j < Px.actWords.length → ((w.alloc o).alloc (.cells #[.string ⟨#[112, 101, 114, 105, 111, 100]⟩, .string ⟨#[110, 101, 101, 100]⟩, .string ⟨#[111, 114, 100, 101, 114]⟩, .string ⟨#[115, 116, 101, 112]⟩, .string ⟨#[114, 101, 112, 108, 97, 110]⟩, .string ⟨#[99, 108, 101, 97, 114]⟩] t)).cell? ⟨w.heap.size + 1, 0 + j, none⟩ = some (.string (Px.actWords.getD j ByteArray.empty)) := by
  intro j hj
  have hs : (w.alloc o).heap.size = w.heap.size + 1 := by simp
  have h := heap_alloc_new (w.alloc o) (.cells #[.string ⟨#[112, 101, 114, 105, 111, 100]⟩, .string ⟨#[110, 101, 101, 100]⟩, .string ⟨#[111, 114, 100, 101, 114]⟩, .string ⟨#[115, 116, 101, 112]⟩, .string ⟨#[114, 101, 112, 108, 97, 110]⟩, .string ⟨#[99, 108, 101, 97, 114]⟩] t)
  rw [hs] at h
  match j, hj with
  | 0, _ => unfold World.cell?; simp only [h]; rfl
  | 1, _ => unfold World.cell?; simp only [h]; rfl
  | 2, _ => unfold World.cell?; simp only [h]; rfl
  | 3, _ => unfold World.cell?; simp only [h]; rfl
  | 4, _ => unfold World.cell?; simp only [h]; rfl
  | 5, _ => unfold World.cell?; simp only [h]; rfl
  | n + 6, h => simp [Px.actWords] at h; omega
theorem ix1 (w : World) : (Instr.index 161 (.agg #[.int .i64 0, .int .i64 4, .int .i64 2, .int .i64 2, .int .i64 0, .int .i64 0, .int .i64 0]) (.int .i64 1)).run Go.Proofs.Tryz.prog w = .ok (.int .i64 4) w := by kernel_rfl
theorem ix2 (w : World) : (Instr.index 161 (.agg #[.int .i64 0, .int .i64 4, .int .i64 2, .int .i64 2, .int .i64 0, .int .i64 0, .int .i64 0]) (.int .i64 2)).run Go.Proofs.Tryz.prog w = .ok (.int .i64 2) w := by kernel_rfl
theorem ix3 (w : World) : (Instr.index 161 (.agg #[.int .i64 0, .int .i64 4, .int .i64 2, .int .i64 2, .int .i64 0, .int .i64 0, .int .i64 0]) (.int .i64 3)).run Go.Proofs.Tryz.prog w = .ok (.int .i64 2) w := by kernel_rfl
theorem ix4 (w : World) : (Instr.index 161 (.agg #[.int .i64 0, .int .i64 4, .int .i64 2, .int .i64 2, .int .i64 0, .int .i64 0, .int .i64 0]) (.int .i64 4)).run Go.Proofs.Tryz.prog w = .ok (.int .i64 0) w := by kernel_rfl
theorem ix5 (w : World) : (Instr.index 161 (.agg #[.int .i64 0, .int .i64 4, .int .i64 2, .int .i64 2, .int .i64 0, .int .i64 0, .int .i64 0]) (.int .i64 5)).run Go.Proofs.Tryz.prog w = .ok (.int .i64 0) w := by kernel_rfl
theorem ix6 (w : World) : (Instr.index 161 (.agg #[.int .i64 0, .int .i64 4, .int .i64 2, .int .i64 2, .int .i64 0, .int .i64 0, .int .i64 0]) (.int .i64 6)).run Go.Proofs.Tryz.prog w = .ok (.int .i64 0) w := by kernel_rfl
theorem act_fail (k : Int) (hkk : k = -1 ∨ k = 0 ∨ k = 1 ∨ k = 2 ∨ k = 3 ∨ k = 4 ∨ k = 5) (word : ByteArray) (A : Option Addr) (n c : Nat) (w : World) (hbig : n ≤ 1000000) (hk : Aside (Lib.idxOfS (List.take 6 Px.actWords) word = k)) (hn : Aside (k = -1 ∨ n ≠ Px.actAr k))
    (hI : ∀ (b off n c : Nat) (zs : List ByteArray) (x : ByteArray) (w : World), n ≤ zs.length → n ≤ 9223372036854775807 → (∀ j, j < zs.length → w.cell? ⟨b, off + j, none⟩ = some (.string (zs.getD j ByteArray.empty))) →
      Calls Go.Proofs.Tryz.prog 136 #[.slice (some ⟨b, off, none⟩) n c, .string x] w fun e w' => e = .returned (.int .i64 (Lib.idxOfS (zs.take n) x)) ∧ w' = w) :
    Calls Go.Proofs.Tryz.prog 92 #[.string word, .slice A n c] w fun e w' => e = .returned (actVal 0 0 0 0 0 false) ∧ Below w.heap.size w w' := by
  rcases hkk with rfl | rfl | rfl | rfl | rfl | rfl | rfl
  all_goals (
    have hn' := hn.out
    simp only [Px.actAr] at hn'
    simp at hn'
    have i1 := ix1
    have i2 := ix2
    have i3 := ix3
    have i4 := ix4
    have i5 := ix5
    have i6 := ix6
    go_enter Go.Proofs.Tryz.func92, Go.Proofs.Tryz.ntmps92
    go_wp2_with (go_at_call 136; refine (hI _ _ 6 _ Px.actWords word _ (by decide) (by decide) (words_cells _ _ _)).mono ?_; rintro e w' ⟨rfl, hw⟩; rw [hw, hk.out])
    all_goals (first | (exfalso; omega) | skip)
    all_goals (go_returns; exact ⟨rfl, ((Below.refl _ w).alloc (Nat.le_refl _) _).alloc (by simp) _⟩))
theorem act_u24 : Go.Proofs.Tryz.prog.underlying 22 = some (.slice 3) := by kernel_rfl
theorem act_i3 : (Go.Proofs.Tryz.prog.info? 3).map (·.size) = some 1 := by kernel_rfl
theorem setRow_new (w : World) (cs cs' : Array Value) (t g : Nat) (hg : g = w.heap.size) : (w.alloc (.cells cs t)).setRow g cs' = w.alloc (.cells cs' t) := by
  subst hg
  unfold World.setRow World.alloc
  simp only [World.mk.injEq, true_and, and_true]
  apply Array.ext_getElem?
  intro k
  rw [Array.getElem?_modify]
  by_cases h : w.heap.size = k
  · subst h; simp
  · rw [if_neg h]
    simp only [Array.getElem?_push]
    rw [if_neg (fun e => h e.symm), if_neg (fun e => h e.symm)]
theorem copyN (w : World) (o1 o2 : Obj) (a : Addr) (c : Nat) (ys : List Int) (h4 : ys.length ≤ 4) (hc : ∀ (j : Nat) u, (ys.map (Value.int .i64))[j]? = some u → a.block < w.heap.size ∧ w.cell? (a.add j) = some u) :
    (Builtin.copy_ #[22, 22] 3 #[.slice (some ⟨w.heap.size + 1 + 1, 0, none⟩) 4 4, .slice (some a) ys.length c]).run Go.Proofs.Tryz.prog (((w.alloc o1).alloc o2).alloc (.cells #[.int .i64 0, .int .i64 0, .int .i64 0, .int .i64 0] 162)) =
      .ok (goInt ys.length) (((w.alloc o1).alloc o2).alloc (.cells (ys.map (Value.int .i64) ++ [Value.int .i64 0, .int .i64 0, .int .i64 0, .int .i64 0].drop ys.length).toArray 162)) := by
  have hs2 : ((w.alloc o1).alloc o2).heap.size = w.heap.size + 1 + 1 := by simp
  have hg := heap_alloc_new ((w.alloc o1).alloc o2) (.cells #[.int .i64 0, .int .i64 0, .int .i64 0, .int .i64 0] 162)
  rw [hs2] at hg
  have hblk : ∀ b, b < w.heap.size → (((w.alloc o1).alloc o2).alloc (.cells #[.int .i64 0, .int .i64 0, .int .i64 0, .int .i64 0] 162)).heap[b]? = w.heap[b]? := fun b hb => by
    rw [Below.heap_alloc _ _ _ (by rw [hs2]; omega), Below.heap_alloc _ _ _ (by simp; omega), Below.heap_alloc _ _ _ hb]
  have h := run_copy_row (P := Go.Proofs.Tryz.prog) (((w.alloc o1).alloc o2).alloc (.cells #[.int .i64 0, .int .i64 0, .int .i64 0, .int .i64 0] 162)) 22 22 3 3 (w.heap.size + 1 + 1) 0 4 4 a ys.length c #[.int .i64 0, .int .i64 0, .int .i64 0, .int .i64 0] 162 (ys.map (Value.int .i64)) act_u24 act_i3 hg (by rw [List.length_map]; exact (Nat.min_eq_left h4).symm)
    (fun j v hj => by obtain ⟨q1, q2⟩ := hc j v hj; rw [World.cell?_of_block (w := w) (hblk _ (by cases j <;> exact q1))]; exact q2) (by simp; omega) (by simp [Value.oneCell'])
  rw [h, setRow_new _ _ _ _ _ hs2.symm]
  simp
theorem copy0 (w : World) (o1 o2 : Obj) (A : Option Addr) (c : Nat) (hA : A = none → c = 0) :
    (Builtin.copy_ #[22, 22] 3 #[.slice (some ⟨w.heap.size + 1 + 1, 0, none⟩) 4 4, .slice A 0 c]).run Go.Proofs.Tryz.prog (((w.alloc o1).alloc o2).alloc (.cells #[.int .i64 0, .int .i64 0, .int .i64 0, .int .i64 0] 162)) = .ok (.int .i64 0) (((w.alloc o1).alloc o2).alloc (.cells #[.int .i64 0, .int .i64 0, .int .i64 0, .int .i64 0] 162)) := by
  cases A with
  | none =>
    obtain rfl := hA rfl
    exact run_copy_nil _ _ 22 22 3 3 _ 4 4 act_u24 (by rw [act_i3]; rfl)
  | some a => exact copyN w o1 o2 a c [] (by simp) (by simp)
theorem act_zero (k : Int) (hkk : k = 3 ∨ k = 4 ∨ k = 5) (word : ByteArray) (A : Option Addr) (c : Nat) (w : World) (hA : A = none → c = 0) (hk : Aside (Lib.idxOfS (List.take 6 Px.actWords) word = k))
    (hI : ∀ (b off n c : Nat) (zs : List ByteArray) (x : ByteArray) (w : World), n ≤ zs.length → n ≤ 9223372036854775807 → (∀ j, j < zs.length → w.cell? ⟨b, off + j, none⟩ = some (.string (zs.getD j ByteArray.empty))) →
      Calls Go.Proofs.Tryz.prog 136 #[.slice (some ⟨b, off, none⟩) n c, .string x] w fun e w' => e = .returned (.int .i64 (Lib.idxOfS (zs.take n) x)) ∧ w' = w) :
    Calls Go.Proofs.Tryz.prog 92 #[.string word, .slice A 0 c] w fun e w' => e = .returned (actVal (k + 1) 0 0 0 0 true) ∧ Below w.heap.size w w' := by
  rcases hkk with rfl | rfl | rfl
  all_goals (
    have i4 := ix4
    have i5 := ix5
    have i6 := ix6
    have hcp := fun o1 o2 => copy0 w o1 o2 A c hA
    go_enter Go.Proofs.Tryz.func92, Go.Proofs.Tryz.ntmps92
    go_wp2_with (go_at_call 136; refine (hI _ _ 6 _ Px.actWords word _ (by decide) (by decide) (words_cells _ _ _)).mono ?_; rintro e w' ⟨rfl, hw⟩; rw [hw, hk.out]))
  all_goals (go_returns; exact ⟨rfl, (((Below.refl _ w).alloc (Nat.le_refl _) _).alloc (by simp) _).alloc (by simp; omega) _⟩)
theorem act_two (k : Int) (hkk : k = 1 ∨ k = 2) (word : ByteArray) (ad : Addr) (c : Nat) (a b : Int) (w : World) (hc : ∀ (j : Nat) u, ([a, b].map (Value.int .i64))[j]? = some u → ad.block < w.heap.size ∧ w.cell? (ad.add j) = some u) (hk : Aside (Lib.idxOfS (List.take 6 Px.actWords) word = k))
    (hI : ∀ (b off n c : Nat) (zs : List ByteArray) (x : ByteArray) (w : World), n ≤ zs.length → n ≤ 9223372036854775807 → (∀ j, j < zs.length → w.cell? ⟨b, off + j, none⟩ = some (.string (zs.getD j ByteArray.empty))) →
      Calls Go.Proofs.Tryz.prog 136 #[.slice (some ⟨b, off, none⟩) n c, .string x] w fun e w' => e = .returned (.int .i64 (Lib.idxOfS (zs.take n) x)) ∧ w' = w) :
    Calls Go.Proofs.Tryz.prog 92 #[.string word, .slice (some ad) 2 c] w fun e w' => e = .returned (actVal (k + 1) a b 0 0 true) ∧ Below w.heap.size w w' := by
  have hcp : ∀ o1 o2, (Builtin.copy_ #[22, 22] 3 #[.slice (some ⟨w.heap.size + 1 + 1, 0, none⟩) 4 4, .slice (some ad) 2 c]).run Go.Proofs.Tryz.prog (((w.alloc o1).alloc o2).alloc (.cells #[.int .i64 0, .int .i64 0, .int .i64 0, .int .i64 0] 162)) = .ok (.int .i64 2) (((w.alloc o1).alloc o2).alloc (.cells #[.int .i64 a, .int .i64 b, .int .i64 0, .int .i64 0] 162)) := fun o1 o2 => copyN w o1 o2 ad c [a, b] (by simp) hc
  clear hc
  rcases hkk with rfl | rfl
  all_goals (
    have i2 := ix2
    have i3 := ix3
    go_enter Go.Proofs.Tryz.func92, Go.Proofs.Tryz.ntmps92
    go_wp2_with (go_at_call 136; refine (hI _ _ 6 _ Px.actWords word _ (by decide) (by decide) (words_cells _ _ _)).mono ?_; rintro e w' ⟨rfl, hw⟩; rw [hw, hk.out]))
  all_goals (go_returns; exact ⟨rfl, ((((Below.refl _ w).alloc (Nat.le_refl _) _).alloc (by simp) _).alloc (by simp; omega) _)⟩)
theorem act_four (word : ByteArray) (ad : Addr) (c : Nat) (x y z t : Int) (w : World) (hc : ∀ (j : Nat) u, ([x, y, z, t].map (Value.int .i64))[j]? = some u → ad.block < w.heap.size ∧ w.cell? (ad.add j) = some u) (hk : Aside (Lib.idxOfS (List.take 6 Px.actWords) word = 0))
    (hI : ∀ (b off n c : Nat) (zs : List ByteArray) (x : ByteArray) (w : World), n ≤ zs.length → n ≤ 9223372036854775807 → (∀ j, j < zs.length → w.cell? ⟨b, off + j, none⟩ = some (.string (zs.getD j ByteArray.empty))) →
      Calls Go.Proofs.Tryz.prog 136 #[.slice (some ⟨b, off, none⟩) n c, .string x] w fun e w' => e = .returned (.int .i64 (Lib.idxOfS (zs.take n) x)) ∧ w' = w) :
    Calls Go.Proofs.Tryz.prog 92 #[.string word, .slice (some ad) 4 c] w fun e w' => e = .returned (actVal 1 x y z t true) ∧ Below w.heap.size w w' := by
  have hcp : ∀ o1 o2, (Builtin.copy_ #[22, 22] 3 #[.slice (some ⟨w.heap.size + 1 + 1, 0, none⟩) 4 4, .slice (some ad) 4 c]).run Go.Proofs.Tryz.prog (((w.alloc o1).alloc o2).alloc (.cells #[.int .i64 0, .int .i64 0, .int .i64 0, .int .i64 0] 162)) = .ok (.int .i64 4) (((w.alloc o1).alloc o2).alloc (.cells #[.int .i64 x, .int .i64 y, .int .i64 z, .int .i64 t] 162)) := fun o1 o2 => copyN w o1 o2 ad c [x, y, z, t] (by simp) hc
  clear hc
  have i1 := ix1
  go_enter Go.Proofs.Tryz.func92, Go.Proofs.Tryz.ntmps92
  go_wp2_with (go_at_call 136; refine (hI _ _ 6 _ Px.actWords word _ (by decide) (by decide) (words_cells _ _ _)).mono ?_; rintro e w' ⟨rfl, hw⟩; rw [hw, hk.out])
  all_goals (go_returns; exact ⟨rfl, ((((Below.refl _ w).alloc (Nat.le_refl _) _).alloc (by simp) _).alloc (by simp; omega) _)⟩)
theorem act_walk (hI : ∀ (b off n c : Nat) (zs : List ByteArray) (x : ByteArray) (w : World), n ≤ zs.length → n ≤ 9223372036854775807 → (∀ j, j < zs.length → w.cell? ⟨b, off + j, none⟩ = some (.string (zs.getD j ByteArray.empty))) →
      Calls Go.Proofs.Tryz.prog 136 #[.slice (some ⟨b, off, none⟩) n c, .string x] w fun e w' => e = .returned (.int .i64 (Lib.idxOfS (zs.take n) x)) ∧ w' = w) : ActCalls Go.Proofs.Tryz.prog 92 := fun word A c xs w hbig hA hc => by
  have h6 : ∀ k, Lib.idxOfS Px.actWords word = k → Aside (Lib.idxOfS (List.take 6 Px.actWords) word = k) := fun k h => h
  by_cases hf : Lib.idxOfS Px.actWords word = -1 ∨ xs.length ≠ Px.actAr (Lib.idxOfS Px.actWords word)
  · refine (act_fail _ (Zov word) word A xs.length c w hbig (h6 _ rfl) hf hI).mono ?_
    rintro e w' ⟨rfl, hb⟩
    exact ⟨by rw [Px.actOfV, if_pos hf]; rfl, hb⟩
  · have hk1 : ¬ Lib.idxOfS Px.actWords word = -1 := fun h => hf (.inl h)
    have hl : xs.length = Px.actAr (Lib.idxOfS Px.actWords word) := Decidable.of_not_not fun h => hf (.inr h)
    have hV : Px.actOfV word xs = ((Lib.idxOfS Px.actWords word + 1, xs.getD 0 0, xs.getD 1 0, xs.getD 2 0, xs.getD 3 0), true) := by rw [Px.actOfV, if_neg hf]
    rw [hV]
    rcases Zov word with h | h | h | h | h | h | h
    · exact absurd h hk1
    · rw [h] at hl ⊢
      match xs, hl, hA, hc with
      | [x, y, z, t], _, hA, hc =>
        cases A with
        | none => exact absurd (hA rfl).1 (by simp)
        | some ad => exact act_four word ad c x y z t w (hc ad rfl) (h6 _ h) hI
    · rw [h] at hl ⊢
      match xs, hl, hA, hc with
      | [x, y], _, hA, hc =>
        cases A with
        | none => exact absurd (hA rfl).1 (by simp)
        | some ad => exact act_two 1 (.inl rfl) word ad c x y w (hc ad rfl) (h6 _ h) hI
    · rw [h] at hl ⊢
      match xs, hl, hA, hc with
      | [x, y], _, hA, hc =>
        cases A with
        | none => exact absurd (hA rfl).1 (by simp)
        | some ad => exact act_two 2 (.inr rfl) word ad c x y w (hc ad rfl) (h6 _ h) hI
    · rw [h] at hl ⊢
      match xs, hl, hA with
      | [], _, hA => exact act_zero 3 (.inl rfl) word A c w (fun e => (hA e).2) (h6 _ h) hI
    · rw [h] at hl ⊢
      match xs, hl, hA with
      | [], _, hA => exact act_zero 4 (.inr (.inl rfl)) word A c w (fun e => (hA e).2) (h6 _ h) hI
    · rw [h] at hl ⊢
      match xs, hl, hA with
      | [], _, hA => exact act_zero 5 (.inr (.inr rfl)) word A c w (fun e => (hA e).2) (h6 _ h) hI
end Go.Proofs.YtndchhdnmnfnlaaGreatDoor.WkFnExactRunScript
