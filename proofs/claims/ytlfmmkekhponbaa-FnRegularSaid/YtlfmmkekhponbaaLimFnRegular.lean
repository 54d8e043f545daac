/- This text proves what the search for plans within limits answers, by a walk through its code; no condition beyond those each theorem states. -/
import Derived.Test.YtlfmmkekhponbaaProg
import Derived.Test.YtlfmmkekhponbaaRxe
import Derived.BigCall
import Derived.BigGuard
import Derived.Deep.Draws
import Derived.Deep.LoopGhost
import Derived.Deep.RegionHeld3
import Derived.Handy
import Derived.Lib.Walk
import Derived.Maps.AppendAt
import Derived.Maps.OwnIn
import Derived.WalkKit
import Derived.WideKeyArr2
import Derived.WideKeyPair
set_option linter.unusedVariables false
set_option linter.unusedSimpArgs false
set_option linter.defProp false
set_option maxHeartbeats 4000000
set_option maxRecDepth 100000
namespace Go.Proofs.Ytlfmmkekhponbaa.WkFnRegular
open Go.RowKit Go.Lib Go.Rx Go.Proofs
def aftV (x : Int × Int × Int) : Value := .tuple #[.int .i64 x.1, .int .i64 x.2.1, .int .i64 x.2.2]
theorem aftI {stock amount nd : Int} : iadd .i64 stock (isub .i64 amount nd) = wrap64 (stock + wrap64 (amount - nd)) := by simp only [iadd, isub, IntKind.wrap_i64, wrap64]
theorem imulW {a b : Int} : imul .i64 a b = wrap64 (a * b) := by simp only [imul, IntKind.wrap_i64, wrap64]
theorem iaddW {a b : Int} : iadd .i64 a b = wrap64 (a + b) := by simp only [iadd, IntKind.wrap_i64, wrap64]
theorem aft_x {reg : Bool} {nd st ut hd lm stock part amount : Int} (h1 : 0 < amount) (h2 : amount < lm) (h3 : reg = true) (h4 : (part == 1) = true) : Px.lmAft reg nd st ut hd lm stock part amount = (0, 0, Px.lmNever) := by
  unfold Px.lmAft; rw [if_pos ⟨⟨h1, h2⟩, h3, by simpa using h4⟩]
theorem aft_na {reg : Bool} {nd st ut hd lm stock part amount : Int} (h1 : 0 < amount) (h2 : amount < lm) (h3 : reg = true) (h4 : (part == 1) = false) (hs : wrap64 (stock + wrap64 (amount - nd)) < 0) : Px.lmAft reg nd st ut hd lm stock part amount = (0, 0, Px.lmNever) := by
  unfold Px.lmAft; rw [if_neg (fun h => by simp [h.2.2] at h4), aftI, if_pos hs]
theorem aft_za {reg : Bool} {nd st ut hd lm stock part amount : Int} (h1 : 0 < amount) (h2 : amount < lm) (h3 : reg = true) (h4 : (part == 1) = false) (hs : 0 ≤ wrap64 (stock + wrap64 (amount - nd))) (hz : (wrap64 (stock + wrap64 (amount - nd)) == 0) = true) : Px.lmAft reg nd st ut hd lm stock part amount = (wrap64 (stock + wrap64 (amount - nd)), 0, wrap64 (wrap64 (wrap64 (ut * amount) + wrap64 (hd * wrap64 (stock + wrap64 (amount - nd)))) + st)) := by
  unfold Px.lmAft; rw [if_neg (fun h => by simp [h.2.2] at h4), aftI, if_neg (by omega), if_pos (by simpa using hz), if_pos h1, iaddW, iaddW, imulW, imulW]
theorem aft_pa {reg : Bool} {nd st ut hd lm stock part amount : Int} (h1 : 0 < amount) (h2 : amount < lm) (h3 : reg = true) (h4 : (part == 1) = false) (hs : 0 ≤ wrap64 (stock + wrap64 (amount - nd))) (hz : (wrap64 (stock + wrap64 (amount - nd)) == 0) = false) : Px.lmAft reg nd st ut hd lm stock part amount = (wrap64 (stock + wrap64 (amount - nd)), 1, wrap64 (wrap64 (wrap64 (ut * amount) + wrap64 (hd * wrap64 (stock + wrap64 (amount - nd)))) + st)) := by
  unfold Px.lmAft; rw [if_neg (fun h => by simp [h.2.2] at h4), aftI, if_neg (by omega), if_neg (by simpa using hz), if_pos ⟨h1, h2⟩, if_pos h1, iaddW, iaddW, imulW, imulW]
theorem aft_nb {reg : Bool} {nd st ut hd lm stock part amount : Int} (h1 : 0 < amount) (h2 : amount < lm) (h3 : ¬reg = true) (hs : wrap64 (stock + wrap64 (amount - nd)) < 0) : Px.lmAft reg nd st ut hd lm stock part amount = (0, 0, Px.lmNever) := by
  unfold Px.lmAft; rw [if_neg (fun h => h3 h.2.1), aftI, if_pos hs]
theorem aft_zb {reg : Bool} {nd st ut hd lm stock part amount : Int} (h1 : 0 < amount) (h2 : amount < lm) (h3 : ¬reg = true) (hs : 0 ≤ wrap64 (stock + wrap64 (amount - nd))) (hz : (wrap64 (stock + wrap64 (amount - nd)) == 0) = true) : Px.lmAft reg nd st ut hd lm stock part amount = (wrap64 (stock + wrap64 (amount - nd)), 0, wrap64 (wrap64 (wrap64 (ut * amount) + wrap64 (hd * wrap64 (stock + wrap64 (amount - nd)))) + st)) := by
  unfold Px.lmAft; rw [if_neg (fun h => h3 h.2.1), aftI, if_neg (by omega), if_pos (by simpa using hz), if_pos h1, iaddW, iaddW, imulW, imulW]
theorem aft_pb {reg : Bool} {nd st ut hd lm stock part amount : Int} (h1 : 0 < amount) (h2 : amount < lm) (h3 : ¬reg = true) (hs : 0 ≤ wrap64 (stock + wrap64 (amount - nd))) (hz : (wrap64 (stock + wrap64 (amount - nd)) == 0) = false) : Px.lmAft reg nd st ut hd lm stock part amount = (wrap64 (stock + wrap64 (amount - nd)), 1, wrap64 (wrap64 (wrap64 (ut * amount) + wrap64 (hd * wrap64 (stock + wrap64 (amount - nd)))) + st)) := by
  unfold Px.lmAft; rw [if_neg (fun h => h3 h.2.1), aftI, if_neg (by omega), if_neg (by simpa using hz), if_pos ⟨h1, h2⟩, if_pos h1, iaddW, iaddW, imulW, imulW]
theorem aft_nc {reg : Bool} {nd st ut hd lm stock part amount : Int} (h1 : 0 < amount) (h2 : lm ≤ amount) (hs : wrap64 (stock + wrap64 (amount - nd)) < 0) : Px.lmAft reg nd st ut hd lm stock part amount = (0, 0, Px.lmNever) := by
  unfold Px.lmAft; rw [if_neg (fun h => by omega), aftI, if_pos hs]
theorem aft_zc {reg : Bool} {nd st ut hd lm stock part amount : Int} (h1 : 0 < amount) (h2 : lm ≤ amount) (hs : 0 ≤ wrap64 (stock + wrap64 (amount - nd))) (hz : (wrap64 (stock + wrap64 (amount - nd)) == 0) = true) : Px.lmAft reg nd st ut hd lm stock part amount = (wrap64 (stock + wrap64 (amount - nd)), 0, wrap64 (wrap64 (wrap64 (ut * amount) + wrap64 (hd * wrap64 (stock + wrap64 (amount - nd)))) + st)) := by
  unfold Px.lmAft; rw [if_neg (fun h => by omega), aftI, if_neg (by omega), if_pos (by simpa using hz), if_pos h1, iaddW, iaddW, imulW, imulW]
theorem aft_pc {reg : Bool} {nd st ut hd lm stock part amount : Int} (h1 : 0 < amount) (h2 : lm ≤ amount) (hs : 0 ≤ wrap64 (stock + wrap64 (amount - nd))) (hz : (wrap64 (stock + wrap64 (amount - nd)) == 0) = false) : Px.lmAft reg nd st ut hd lm stock part amount = (wrap64 (stock + wrap64 (amount - nd)), part, wrap64 (wrap64 (wrap64 (ut * amount) + wrap64 (hd * wrap64 (stock + wrap64 (amount - nd)))) + st)) := by
  unfold Px.lmAft; rw [if_neg (fun h => by omega), aftI, if_neg (by omega), if_neg (by simpa using hz), if_neg (fun h => by omega), if_pos h1, iaddW, iaddW, imulW, imulW]
theorem aft_nd {reg : Bool} {nd st ut hd lm stock part amount : Int} (h1 : amount ≤ 0) (hs : wrap64 (stock + wrap64 (amount - nd)) < 0) : Px.lmAft reg nd st ut hd lm stock part amount = (0, 0, Px.lmNever) := by
  unfold Px.lmAft; rw [if_neg (fun h => by omega), aftI, if_pos hs]
theorem aft_zd {reg : Bool} {nd st ut hd lm stock part amount : Int} (h1 : amount ≤ 0) (hs : 0 ≤ wrap64 (stock + wrap64 (amount - nd))) (hz : (wrap64 (stock + wrap64 (amount - nd)) == 0) = true) : Px.lmAft reg nd st ut hd lm stock part amount = (wrap64 (stock + wrap64 (amount - nd)), 0, IntKind.i64.wrap (IntKind.i64.wrap (ut * amount) + IntKind.i64.wrap (hd * wrap64 (stock + wrap64 (amount - nd))))) := by
  unfold Px.lmAft; rw [if_neg (fun h => by omega), aftI, if_neg (by omega), if_pos (by simpa using hz), if_neg (by omega)]; rfl
theorem aft_pd {reg : Bool} {nd st ut hd lm stock part amount : Int} (h1 : amount ≤ 0) (hs : 0 ≤ wrap64 (stock + wrap64 (amount - nd))) (hz : (wrap64 (stock + wrap64 (amount - nd)) == 0) = false) : Px.lmAft reg nd st ut hd lm stock part amount = (wrap64 (stock + wrap64 (amount - nd)), part, IntKind.i64.wrap (IntKind.i64.wrap (ut * amount) + IntKind.i64.wrap (hd * wrap64 (stock + wrap64 (amount - nd))))) := by
  unfold Px.lmAft; rw [if_neg (fun h => by omega), aftI, if_neg (by omega), if_neg (by simpa using hz), if_neg (fun h => by omega), if_neg (by omega)]; rfl
theorem lim_after (w : World) (b : Nat) (n : Nat) (An As Au Ah Al : Addr) (kn ks ku kh kl : Nat) (nd st ut hd lm : Int) (reg : Bool) (i : Nat) (stock part amount : Int) (hi : i < n)
    (h0 : w.cell? ⟨b, 0, none⟩ = some (.slice (some An) n kn)) (h1 : w.cell? ⟨b, 1, none⟩ = some (.slice (some As) n ks)) (h2 : w.cell? ⟨b, 2, none⟩ = some (.slice (some Au) n ku)) (h3 : w.cell? ⟨b, 3, none⟩ = some (.slice (some Ah) n kh))
    (h4 : w.cell? ⟨b, 4, none⟩ = some (.slice (some Al) n kl)) (h5 : w.cell? ⟨b, 5, none⟩ = some (.bool reg))
    (n0 : w.cell? (An.add i) = some (.int .i64 nd)) (n1 : w.cell? (As.add i) = some (.int .i64 st)) (n2 : w.cell? (Au.add i) = some (.int .i64 ut)) (n3 : w.cell? (Ah.add i) = some (.int .i64 hd)) (n4 : w.cell? (Al.add i) = some (.int .i64 lm)) :
    Calls Go.Proofs.Try.prog 89 #[.pointer (some ⟨b, 0, none⟩), .int .i64 i, .int .i64 stock, .int .i64 part, .int .i64 amount] w fun e w' => e = .returned (aftV (Px.lmAft reg nd st ut hd lm stock part amount)) ∧ Below w.heap.size w w' := by
  go_enter Go.Proofs.Try.func89, Go.Proofs.Try.ntmps89
  go_wp2
  all_goals first
    | (go_returns
       first
         | exact ⟨by rw [aft_x (reg := reg) (nd := nd) (st := st) (ut := ut) (hd := hd) (lm := lm) (stock := stock) (part := part) (amount := amount) (by assumption) (by assumption) (by assumption) (by assumption)]; rfl, by first | exact Below.refl _ _ | exact (Below.refl _ _).drew⟩
         | exact ⟨by rw [aft_na (reg := reg) (nd := nd) (st := st) (ut := ut) (hd := hd) (lm := lm) (stock := stock) (part := part) (amount := amount) (by assumption) (by assumption) (by assumption) (by assumption) (by assumption)]; rfl, by first | exact Below.refl _ _ | exact (Below.refl _ _).drew⟩
         | exact ⟨by rw [aft_za (reg := reg) (nd := nd) (st := st) (ut := ut) (hd := hd) (lm := lm) (stock := stock) (part := part) (amount := amount) (by assumption) (by assumption) (by assumption) (by assumption) (by assumption) (by assumption)]; rfl, by first | exact Below.refl _ _ | exact (Below.refl _ _).drew⟩
         | exact ⟨by rw [aft_pa (reg := reg) (nd := nd) (st := st) (ut := ut) (hd := hd) (lm := lm) (stock := stock) (part := part) (amount := amount) (by assumption) (by assumption) (by assumption) (by assumption) (by assumption) (by assumption)]; rfl, by first | exact Below.refl _ _ | exact (Below.refl _ _).drew⟩
         | exact ⟨by rw [aft_nb (reg := reg) (nd := nd) (st := st) (ut := ut) (hd := hd) (lm := lm) (stock := stock) (part := part) (amount := amount) (by assumption) (by assumption) (by assumption) (by assumption)]; rfl, by first | exact Below.refl _ _ | exact (Below.refl _ _).drew⟩
         | exact ⟨by rw [aft_zb (reg := reg) (nd := nd) (st := st) (ut := ut) (hd := hd) (lm := lm) (stock := stock) (part := part) (amount := amount) (by assumption) (by assumption) (by assumption) (by assumption) (by assumption)]; rfl, by first | exact Below.refl _ _ | exact (Below.refl _ _).drew⟩
         | exact ⟨by rw [aft_pb (reg := reg) (nd := nd) (st := st) (ut := ut) (hd := hd) (lm := lm) (stock := stock) (part := part) (amount := amount) (by assumption) (by assumption) (by assumption) (by assumption) (by assumption)]; rfl, by first | exact Below.refl _ _ | exact (Below.refl _ _).drew⟩
         | exact ⟨by rw [aft_nc (reg := reg) (nd := nd) (st := st) (ut := ut) (hd := hd) (lm := lm) (stock := stock) (part := part) (amount := amount) (by assumption) (by assumption) (by assumption)]; rfl, by first | exact Below.refl _ _ | exact (Below.refl _ _).drew⟩
         | exact ⟨by rw [aft_zc (reg := reg) (nd := nd) (st := st) (ut := ut) (hd := hd) (lm := lm) (stock := stock) (part := part) (amount := amount) (by assumption) (by assumption) (by assumption) (by assumption)]; rfl, by first | exact Below.refl _ _ | exact (Below.refl _ _).drew⟩
         | exact ⟨by rw [aft_pc (reg := reg) (nd := nd) (st := st) (ut := ut) (hd := hd) (lm := lm) (stock := stock) (part := part) (amount := amount) (by assumption) (by assumption) (by assumption) (by assumption)]; rfl, by first | exact Below.refl _ _ | exact (Below.refl _ _).drew⟩
         | exact ⟨by rw [aft_nd (reg := reg) (nd := nd) (st := st) (ut := ut) (hd := hd) (lm := lm) (stock := stock) (part := part) (amount := amount) (by assumption) (by assumption)]; rfl, by first | exact Below.refl _ _ | exact (Below.refl _ _).drew⟩
         | exact ⟨by rw [aft_zd (reg := reg) (nd := nd) (st := st) (ut := ut) (hd := hd) (lm := lm) (stock := stock) (part := part) (amount := amount) (by assumption) (by assumption) (by assumption)]; rfl, by first | exact Below.refl _ _ | exact (Below.refl _ _).drew⟩
         | exact ⟨by rw [aft_pd (reg := reg) (nd := nd) (st := st) (ut := ut) (hd := hd) (lm := lm) (stock := stock) (part := part) (amount := amount) (by assumption) (by assumption) (by assumption)]; rfl, by first | exact Below.refl _ _ | exact (Below.refl _ _).drew⟩)
    | ((go_region_held3 (fun w' => w'.cell? ⟨b, 0, none⟩ = some (.slice (some An) n kn) ∧ w'.cell? ⟨b, 1, none⟩ = some (.slice (some As) n ks) ∧ w'.cell? ⟨b, 2, none⟩ = some (.slice (some Au) n ku) ∧ w'.cell? ⟨b, 3, none⟩ = some (.slice (some Ah) n kh) ∧ w'.cell? (As.add i) = some (.int .i64 st) ∧ w'.cell? (Au.add i) = some (.int .i64 ut) ∧ w'.cell? (Ah.add i) = some (.int .i64 hd)) (go_keep) (fail))
       all_goals go_wp2
       all_goals (go_returns
                  first
                   | exact ⟨by rw [aft_x (reg := reg) (nd := nd) (st := st) (ut := ut) (hd := hd) (lm := lm) (stock := stock) (part := part) (amount := amount) (by assumption) (by assumption) (by assumption) (by assumption)]; rfl, by first | exact Below.refl _ _ | exact (Below.refl _ _).drew⟩
                   | exact ⟨by rw [aft_na (reg := reg) (nd := nd) (st := st) (ut := ut) (hd := hd) (lm := lm) (stock := stock) (part := part) (amount := amount) (by assumption) (by assumption) (by assumption) (by assumption) (by assumption)]; rfl, by first | exact Below.refl _ _ | exact (Below.refl _ _).drew⟩
                   | exact ⟨by rw [aft_za (reg := reg) (nd := nd) (st := st) (ut := ut) (hd := hd) (lm := lm) (stock := stock) (part := part) (amount := amount) (by assumption) (by assumption) (by assumption) (by assumption) (by assumption) (by assumption)]; rfl, by first | exact Below.refl _ _ | exact (Below.refl _ _).drew⟩
                   | exact ⟨by rw [aft_pa (reg := reg) (nd := nd) (st := st) (ut := ut) (hd := hd) (lm := lm) (stock := stock) (part := part) (amount := amount) (by assumption) (by assumption) (by assumption) (by assumption) (by assumption) (by assumption)]; rfl, by first | exact Below.refl _ _ | exact (Below.refl _ _).drew⟩
                   | exact ⟨by rw [aft_nb (reg := reg) (nd := nd) (st := st) (ut := ut) (hd := hd) (lm := lm) (stock := stock) (part := part) (amount := amount) (by assumption) (by assumption) (by assumption) (by assumption)]; rfl, by first | exact Below.refl _ _ | exact (Below.refl _ _).drew⟩
                   | exact ⟨by rw [aft_zb (reg := reg) (nd := nd) (st := st) (ut := ut) (hd := hd) (lm := lm) (stock := stock) (part := part) (amount := amount) (by assumption) (by assumption) (by assumption) (by assumption) (by assumption)]; rfl, by first | exact Below.refl _ _ | exact (Below.refl _ _).drew⟩
                   | exact ⟨by rw [aft_pb (reg := reg) (nd := nd) (st := st) (ut := ut) (hd := hd) (lm := lm) (stock := stock) (part := part) (amount := amount) (by assumption) (by assumption) (by assumption) (by assumption) (by assumption)]; rfl, by first | exact Below.refl _ _ | exact (Below.refl _ _).drew⟩
                   | exact ⟨by rw [aft_nc (reg := reg) (nd := nd) (st := st) (ut := ut) (hd := hd) (lm := lm) (stock := stock) (part := part) (amount := amount) (by assumption) (by assumption) (by assumption)]; rfl, by first | exact Below.refl _ _ | exact (Below.refl _ _).drew⟩
                   | exact ⟨by rw [aft_zc (reg := reg) (nd := nd) (st := st) (ut := ut) (hd := hd) (lm := lm) (stock := stock) (part := part) (amount := amount) (by assumption) (by assumption) (by assumption) (by assumption)]; rfl, by first | exact Below.refl _ _ | exact (Below.refl _ _).drew⟩
                   | exact ⟨by rw [aft_pc (reg := reg) (nd := nd) (st := st) (ut := ut) (hd := hd) (lm := lm) (stock := stock) (part := part) (amount := amount) (by assumption) (by assumption) (by assumption) (by assumption)]; rfl, by first | exact Below.refl _ _ | exact (Below.refl _ _).drew⟩
                   | exact ⟨by rw [aft_nd (reg := reg) (nd := nd) (st := st) (ut := ut) (hd := hd) (lm := lm) (stock := stock) (part := part) (amount := amount) (by assumption) (by assumption)]; rfl, by first | exact Below.refl _ _ | exact (Below.refl _ _).drew⟩
                   | exact ⟨by rw [aft_zd (reg := reg) (nd := nd) (st := st) (ut := ut) (hd := hd) (lm := lm) (stock := stock) (part := part) (amount := amount) (by assumption) (by assumption) (by assumption)]; rfl, by first | exact Below.refl _ _ | exact (Below.refl _ _).drew⟩
                   | exact ⟨by rw [aft_pd (reg := reg) (nd := nd) (st := st) (ut := ut) (hd := hd) (lm := lm) (stock := stock) (part := part) (amount := amount) (by assumption) (by assumption) (by assumption)]; rfl, by first | exact Below.refl _ _ | exact (Below.refl _ _).drew⟩))
end Go.Proofs.Ytlfmmkekhponbaa.WkFnRegular
namespace Go.Rx
open Go.WideMaps Go.ChangeMaps Go.MapKept Go.Maps
open Go.WideElems (Fit rd rg pl rd_val elemAt)
def key3 (i s p : Int) : Value := .agg #[.int .i64 i, .int .i64 s, .int .i64 p]
def wfI (x : Int) : Prop := -9223372036854775808 ≤ x ∧ x ≤ 9223372036854775807
theorem wfI_lit {x : Int} (h : wfI x) : (Lit.int .i64 x).wf = true := by
  simp only [Lit.wf, IntKind.min, IntKind.max, IntKind.signed, IntKind.bits, Bool.and_eq_true, decide_eq_true_eq, if_true]
  unfold wfI at h
  omega
theorem keyOf_trip {P : Program} {k e : TypeId} (A : ArrKey P k e 3) (he : P.underlying e = some (.int .i64)) (hsz : ∃ m, P.types.size = m + 1) {a b c : Int} (wa : wfI a) (wb : wfI b) (wc : wfI c) :
    keyOf P k (key3 a b c) = some (.string (keyBytes [.int .i64 a, .int .i64 b, .int .i64 c])) := by
  have hkt := A.keyType hsz
  obtain ⟨m, hm⟩ := hsz
  unfold keyOf key3
  simp only [A.hu]
  rw [if_pos (by simp [hkt, Value.formed, A.hu, A.size]), hm]
  unfold Program.keyLits
  simp only [A.hu, Value.cells]
  rw [if_pos (by rw [A.size]; rfl), show List.range 3 = [0, 1, 2] from rfl, List.mapM_cons, List.mapM_cons, List.mapM_cons, List.mapM_nil]
  simp [A.one, Program.keyLits, he, wfI_lit wa, wfI_lit wb, wfI_lit wc]
/-- The memo: a map whose every entry is right. -/
structure Memo (P : Program) (w : World) (k e : TypeId) (m n : Nat) (V : Int → Int → Int → Int) (D : DataW Unit) : Prop where
  own : w.ownsMap P k (plainElem P e) m n D
  val : ∀ i s p kl, keyOf P k (key3 i s p) = some kl → Maps.has D kl = true → D.atKey kl (.lit (.int .i64 0)) = .lit (.int .i64 (V i s p))
variable {P : Program} {w : World} {t k e : TypeId} {m n : Nat} {V : Int → Int → Int → Int} {D : DataW Unit}
theorem Memo.made (w : World) (V : Int → Int → Int → Int) : Memo P (w.alloc (.map #[] 0)) k e w.heap.size 0 V (.map []) :=
  ⟨World.ownsMap_made w P k _, fun i s p kl _ h => by simp [Maps.has] at h⟩
theorem Memo.kept {w' : World} (h : Memo P w k e m n V D) (hg : w.grownBy w' none) : Memo P w' k e m n V D := ⟨h.own.kept hg (by simp), h.val⟩
theorem Memo.mono {n' : Nat} (h : Memo P w k e m n V D) (hn : n ≤ n') : Memo P w k e m n' V D := ⟨h.own.mono hn, h.val⟩
theorem Memo.look (h : Memo P w k e m n V D) (A : ArrKey P k e 3) (ht : P.underlying t = some (.map k e)) (he : P.underlying e = some (.int .i64)) (hz : ∀ w, (zeroValue e).run P w = .ok (.int .i64 0) w) (hsz : ∃ m, P.types.size = m + 1) {a b c : Int} (wa : wfI a) (wb : wfI b) (wc : wfI c) :
    ∃ (v : Int) (f : Bool), (f = true → v = V a b c) ∧ ∀ w' : World, w'.ownsMap P k (plainElem P e) m n D → (Instr.lookup t (.map (some m)) (key3 a b c) true).run P w' = .ok (.tuple #[.int .i64 v, .bool f]) w' := by
  have K : Keyed P k := Keyed.of_law A.law
  have hk := keyOf_trip A he hsz wa wb wc
  have hw0 : (Lit.int .i64 0).wf = true := by decide
  have one : ∀ w' : World, w'.ownsMap P k (plainElem P e) m n D → ∃ v : Int, (Instr.lookup t (.map (some m)) (key3 a b c) true).run P w' = .ok (.tuple #[.int .i64 v, .bool (Maps.has D (.string (keyBytes [.int .i64 a, .int .i64 b, .int .i64 c])))]) w' ∧ D.atKey (.string (keyBytes [.int .i64 a, .int .i64 b, .int .i64 c])) (.lit (.int .i64 0)) = .lit (.int .i64 v) := fun w' ho => by
    obtain ⟨v, ps, hrun, hv⟩ := ho.look_ok K ht (hz w') (plainElem_int he hw0) hk
    obtain ⟨x, rfl, hx, _⟩ := plainElem_int_inv he hv
    simp only [Prod.mk.injEq] at hx
    exact ⟨x, hrun, hx.1⟩
  obtain ⟨v, _, h2⟩ := one w h.own
  refine ⟨v, Maps.has D (.string (keyBytes [.int .i64 a, .int .i64 b, .int .i64 c])), fun hf => ?_, fun w' ho => ?_⟩
  · have h3 := h.val a b c _ hk hf
    rw [h2] at h3
    simpa using h3
  · obtain ⟨v', h3, h4⟩ := one w' ho
    rw [h2] at h4
    obtain rfl : v = v' := by simpa using h4
    exact h3
theorem Memo.store (h : Memo P w k e m n V D) (A : ArrKey P k e 3) (ht : P.underlying t = some (.map k e)) (he : P.underlying e = some (.int .i64)) (hsz : ∃ m, P.types.size = m + 1) (hn : n < maxLen) {a b c : Int} (wa : wfI a) (wb : wfI b) (wc : wfI c) (wv : wfI (V a b c)) :
    ∃ w' D', (Instr.mapUpdate t (.map (some m)) (key3 a b c) (.int .i64 (V a b c))).run P w = .ok () w' ∧ Memo P w' k e m (n + 1) V D' ∧ w.grownBy w' (some m) := by
  have K : Keyed P k := Keyed.of_law A.law
  have hk := keyOf_trip A he hsz wa wb wc
  have hvv : plainElem (H := Unit) P e (.int .i64 (V a b c)) = some (.lit (.int .i64 (V a b c)), []) := plainElem_int he (wfI_lit wv)
  obtain ⟨w', hrun, ho, hg⟩ := h.own.update K ht hn hk hvv
  refine ⟨w', _, hrun, ⟨ho, fun i s p kl hkl hh => ?_⟩, hg⟩
  by_cases heq : kl = .string (keyBytes [.int .i64 a, .int .i64 b, .int .i64 c])
  · subst heq
    have := K.inj hkl hk
    simp only [key3, Value.agg.injEq, Array.mk.injEq, List.cons.injEq, Value.int.injEq, true_and, and_true] at this
    obtain ⟨rfl, rfl, rfl⟩ := this
    exact Maps.atKey_put_same h.own.isMap (K.key hk) _ _
  · rw [Maps.atKey_put_other heq]
    rw [Maps.has_put_other heq] at hh
    exact h.val i s p kl hkl hh
end Go.Rx
namespace Go.Proofs.Ytlfmmkekhponbaa.WkFnRegular
open Go.RowKit Go.Lib Go.Rx Go.Proofs
structure LimA where
  b : Nat
  m : Nat
  n : Nat
  An : Option Addr
  As : Option Addr
  Au : Option Addr
  Ah : Option Addr
  Al : Option Addr
  kn : Nat
  ks : Nat
  ku : Nat
  kh : Nat
  kl : Nat
structure LimW (w : World) (A : LimA) (c : (List Int × List Int × List Int × List Int)) (l : List Int) (reg : Bool) : Prop where
  c0 : w.cell? ⟨A.b, 0, none⟩ = some (.slice A.An A.n A.kn)
  c1 : w.cell? ⟨A.b, 1, none⟩ = some (.slice A.As A.n A.ks)
  c2 : w.cell? ⟨A.b, 2, none⟩ = some (.slice A.Au A.n A.ku)
  c3 : w.cell? ⟨A.b, 3, none⟩ = some (.slice A.Ah A.n A.kh)
  c4 : w.cell? ⟨A.b, 4, none⟩ = some (.slice A.Al A.n A.kl)
  c5 : w.cell? ⟨A.b, 5, none⟩ = some (.bool reg)
  c6 : w.cell? ⟨A.b, 6, none⟩ = some (.map (some A.m))
  e0 : ∀ j : Nat, j < A.n → ∃ a, A.An = some a ∧ w.cell? (a.add j) = some (.int .i64 (gd c.1 j 0)) ∧ a.block ≠ A.m
  e1 : ∀ j : Nat, j < A.n → ∃ a, A.As = some a ∧ w.cell? (a.add j) = some (.int .i64 (gd c.2.1 j 0)) ∧ a.block ≠ A.m
  e2 : ∀ j : Nat, j < A.n → ∃ a, A.Au = some a ∧ w.cell? (a.add j) = some (.int .i64 (gd c.2.2.1 j 0)) ∧ a.block ≠ A.m
  e3 : ∀ j : Nat, j < A.n → ∃ a, A.Ah = some a ∧ w.cell? (a.add j) = some (.int .i64 (gd c.2.2.2 j 0)) ∧ a.block ≠ A.m
  e4 : ∀ j : Nat, j < A.n → ∃ a, A.Al = some a ∧ w.cell? (a.add j) = some (.int .i64 (gd l j 0)) ∧ a.block ≠ A.m
  bm : A.b ≠ A.m
  nk : A.n ≤ A.kn
  ns : ∀ a, A.An = some a → 0 < A.n → a.spot = none
  nz : A.An = none → A.kn = 0
theorem add_blk (a : Addr) (j : Nat) : (a.add j).block = a.block := by unfold Addr.add; split <;> rfl
theorem row_kept {w w' : World} {m n : Nat} {B : Option Addr} {f : Nat → Int} (hg : w.grownBy w' (some m)) (h : ∀ j : Nat, j < n → ∃ a, B = some a ∧ w.cell? (a.add j) = some (.int .i64 (f j)) ∧ a.block ≠ m) : ∀ j : Nat, j < n → ∃ a, B = some a ∧ w'.cell? (a.add j) = some (.int .i64 (f j)) ∧ a.block ≠ m := fun j hj => by
  obtain ⟨a, h1, h2, h3⟩ := h j hj
  exact ⟨a, h1, hg.cell h2 (fun e => h3 (by rw [← add_blk a j]; simpa using e)), h3⟩
theorem LimW.kept {w w' : World} {A : LimA} {c : (List Int × List Int × List Int × List Int)} {l : List Int} {reg : Bool} (h : LimW w A c l reg) (hg : w.grownBy w' (some A.m)) : LimW w' A c l reg := by
  have hb : ∀ k : Nat, some (⟨A.b, k, none⟩ : Addr).block ≠ some A.m := fun k e => h.bm (by simpa using e)
  exact ⟨hg.cell h.c0 (hb 0), hg.cell h.c1 (hb 1), hg.cell h.c2 (hb 2), hg.cell h.c3 (hb 3), hg.cell h.c4 (hb 4), hg.cell h.c5 (hb 5), hg.cell h.c6 (hb 6), row_kept hg h.e0, row_kept hg h.e1, row_kept hg h.e2, row_kept hg h.e3, row_kept hg h.e4, h.bm, h.nk, h.ns, h.nz⟩
def cntL : Nat → Nat
  | 0 => 0
  | d + 1 => 161 * cntL d + 1
def lstM (c : (List Int × List Int × List Int × List Int)) (l : List Int) (reg : Bool) (n : Nat) (i s p : Int) : Int := Px.lmLst c l reg (n - i.toNat) i.toNat s p
abbrev MemoL (w : World) (A : LimA) (c : (List Int × List Int × List Int × List Int)) (l : List Int) (reg : Bool) (k : Nat) : Prop := ∃ D, Memo Go.Proofs.Try.prog w 98 3 A.m k (lstM c l reg A.n) D
theorem wrap64_wfI (x : Int) : wfI (wrap64 x) := by unfold wfI wrap64; omega
theorem iadd_wfI (x y : Int) : wfI (iadd .i64 x y) := by rw [iaddW]; exact wrap64_wfI _
theorem aft_wfI (reg : Bool) (nd st ut hd lm : Int) {s p : Int} (x : Int) (hp : wfI p) : wfI (Px.lmAft reg nd st ut hd lm s p x).1 ∧ wfI (Px.lmAft reg nd st ut hd lm s p x).2.1 := by
  have h0 : wfI 0 := by unfold wfI; omega
  have h1 : wfI 1 := by unfold wfI; omega
  unfold Px.lmAft
  split
  · exact ⟨h0, h0⟩
  · split
    · exact ⟨h0, h0⟩
    · refine ⟨iadd_wfI _ _, ?_⟩
      show wfI (if _ then _ else _)
      split
      · exact h0
      · split
        · exact h1
        · exact hp
theorem imin_wfI {x y : Int} (hx : wfI x) (hy : wfI y) : wfI (imin x y) := by unfold imin; split <;> assumption
theorem never_wfI : wfI Px.lmNever := by unfold wfI Px.lmNever; omega
theorem wthC_wfI (c : (List Int × List Int × List Int × List Int)) (l : List Int) (reg : Bool) (L : Int → Int → Int) (i : Nat) (s p x : Int) : wfI (Px.lmWth c l reg L i s p x) := by
  unfold Px.lmWth
  split
  · exact never_wfI
  · exact imin_wfI never_wfI (iadd_wfI _ _)
theorem mnA_wfI {f : Nat → Int} (h : ∀ k, wfI (f k)) : ∀ n, wfI (Px.lmMn f n)
  | 0 => never_wfI
  | n + 1 => imin_wfI (mnA_wfI h n) (h n)
theorem lstC_wfI (c : (List Int × List Int × List Int × List Int)) (l : List Int) (reg : Bool) : ∀ d i s p, wfI (Px.lmLst c l reg d i s p)
  | 0, i, s, p => by
    simp only [Px.lmLst]
    split
    · exact never_wfI
    · unfold wfI; omega
  | d + 1, i, s, p => by
    simp only [Px.lmLst]
    split
    · exact never_wfI
    · exact mnA_wfI (fun k => wthC_wfI _ _ _ _ _ _ _ _) _
def CAP : Nat := 9000000000000000000
def LeastOk (A : LimA) (c : (List Int × List Int × List Int × List Int)) (l : List Int) (reg : Bool) (d : Nat) : Prop := ∀ (i : Nat) (s p : Int) (w : World) (k : Nat), i + d = A.n → wfI s → wfI p → LimW w A c l reg → MemoL w A c l reg k → k + cntL d ≤ CAP →
  Calls Go.Proofs.Try.prog 87 #[.pointer (some ⟨A.b, 0, none⟩), .int .i64 i, .int .i64 s, .int .i64 p] w fun e w' => e = .returned (.int .i64 (Px.lmLst c l reg d i s p)) ∧ MemoL w' A c l reg (k + cntL d) ∧ w.grownBy w' (some A.m)
def WithOk (A : LimA) (c : (List Int × List Int × List Int × List Int)) (l : List Int) (reg : Bool) (d : Nat) : Prop := ∀ (i : Nat) (s p x : Int) (w : World) (k : Nat), i + (d + 1) = A.n → wfI s → wfI p → LimW w A c l reg → MemoL w A c l reg k → k + cntL d ≤ CAP →
  Calls Go.Proofs.Try.prog 88 #[.pointer (some ⟨A.b, 0, none⟩), .int .i64 i, .int .i64 s, .int .i64 p, .int .i64 x] w fun e w' => e = .returned (.int .i64 (Px.lmWth c l reg (Px.lmLst c l reg d (i + 1)) i s p x)) ∧ MemoL w' A c l reg (k + cntL d) ∧ w.grownBy w' (some A.m)
theorem Below.grown' {w w' : World} (h : Below w.heap.size w w') (row : Option Nat) : w.grownBy w' row := ⟨h.os, h.tape, h.output, h.size, fun k hk _ => h.block k hk⟩
theorem after_ok {A : LimA} {c : (List Int × List Int × List Int × List Int)} {l : List Int} {reg : Bool} {w : World} (hW : LimW w A c l reg) {i : Nat} (hi : i < A.n) (s p x : Int) :
    Calls Go.Proofs.Try.prog 89 #[.pointer (some ⟨A.b, 0, none⟩), .int .i64 i, .int .i64 s, .int .i64 p, .int .i64 x] w fun e w' => e = .returned (aftV (Px.lmAftC c l reg i s p x)) ∧ Below w.heap.size w w' := by
  obtain ⟨a0, h0, n0, _⟩ := hW.e0 i hi
  obtain ⟨a1, h1, n1, _⟩ := hW.e1 i hi
  obtain ⟨a2, h2, n2, _⟩ := hW.e2 i hi
  obtain ⟨a3, h3, n3, _⟩ := hW.e3 i hi
  obtain ⟨a4, h4, n4, _⟩ := hW.e4 i hi
  exact lim_after w A.b A.n a0 a1 a2 a3 a4 A.kn A.ks A.ku A.kh A.kl _ _ _ _ _ reg i s p x hi (h0 ▸ hW.c0) (h1 ▸ hW.c1) (h2 ▸ hW.c2) (h3 ▸ hW.c3) (h4 ▸ hW.c4) hW.c5 n0 n1 n2 n3 n4
theorem Aside.mk' {p : Prop} (h : p) : Aside p := h
theorem min_imin (a b : Int) : min a b = imin a b := by unfold imin; rw [Int.min_def]; split <;> split <;> omega
theorem with_ok {A : LimA} {c : (List Int × List Int × List Int × List Int)} {l : List Int} {reg : Bool} {d : Nat} (hn : A.n ≤ 8) (hL : LeastOk A c l reg d) : WithOk A c l reg d := by
  intro i s p x w k hid hs hp hW hM hk
  have ha := after_ok hW (i := i) (by omega) s p x
  have hwf := aft_wfI reg (gd c.1 i 0) (gd c.2.1 i 0) (gd c.2.2.1 i 0) (gd c.2.2.2 i 0) (gd l i 0) (s := s) x hp
  change wfI (Px.lmAftC c l reg i s p x).1 ∧ wfI (Px.lmAftC c l reg i s p x).2.1 at hwf
  have hv : Px.lmWth c l reg (Px.lmLst c l reg d (i + 1)) i s p x = if (Px.lmAftC c l reg i s p x).2.2 = Px.lmNever then Px.lmNever else imin Px.lmNever (iadd .i64 (Px.lmAftC c l reg i s p x).2.2 (Px.lmLst c l reg d (i + 1) (Px.lmAftC c l reg i s p x).1 (Px.lmAftC c l reg i s p x).2.1)) := rfl
  generalize Px.lmAftC c l reg i s p x = r at ha hwf hv
  obtain ⟨r1, r2, r3⟩ := r
  simp only at hwf hv
  replace ha : Calls Go.Proofs.Try.prog 89 #[.pointer (some ⟨A.b, 0, none⟩), .int .i64 i, .int .i64 s, .int .i64 p, .int .i64 x] w fun e w' => e = .returned (.tuple #[.int .i64 r1, .int .i64 r2, .int .i64 r3]) ∧ Below w.heap.size w w' := ha
  have HV := Aside.mk' hv
  have HL := Aside.mk' hL
  have HW := Aside.mk' hW
  have HM := Aside.mk' hM
  have HK := Aside.mk' hk
  have HF := Aside.mk' hwf
  have HA := Aside.mk' ha
  rw [hv]
  clear hv hL hW hM hk hwf hs hp ha
  have HC : Aside (∀ w1, Below w.heap.size w w1 → Calls Go.Proofs.Try.prog 87 #[.pointer (some ⟨A.b, 0, none⟩), .int .i64 ((i : Int) + 1), .int .i64 r1, .int .i64 r2] w1 fun e w' => e = .returned (.int .i64 (Px.lmLst c l reg d (i + 1) r1 r2)) ∧ MemoL w' A c l reg (k + cntL d) ∧ w1.grownBy w' (some A.m)) := fun w1 hb => by
    have hg := Below.grown' hb (some A.m)
    obtain ⟨D, hD⟩ := HM.out
    exact HL.out (i + 1) r1 r2 w1 k (by omega) HF.out.1 HF.out.2 (HW.out.kept hg) ⟨D, hD.kept (Below.grown' hb none)⟩ HK.out
  go_enter Go.Proofs.Try.func88, Go.Proofs.Try.ntmps88
  go_wp2_with (first
    | (go_at_call 89; refine HA.out.mono ?_; rintro e w1 ⟨rfl, hb⟩; have HB := Aside.mk' hb; clear hb)
    | (go_at_call 87; refine (HC.out _ HB.out).mono ?_; rintro e w2 ⟨rfl, hm, hg⟩; have HM2 := Aside.mk' hm; have HG2 := Aside.mk' hg; clear hm hg))
  all_goals go_returns
  all_goals first
    | (have h1 : (r3 == 1099511627776) = true := by assumption
       have h2 : r3 = Px.lmNever := by assumption
       obtain ⟨D, hD⟩ := HM.out
       exact ⟨rfl, ⟨D, (hD.kept (Below.grown' HB.out none)).mono (by omega)⟩, Below.grown' HB.out _⟩)
    | (exfalso
       have h1 : (r3 == 1099511627776) = true := by assumption
       have h2 : ¬ r3 = Px.lmNever := by assumption
       exact h2 (by simpa [Px.lmNever] using h1))
    | (exfalso
       have h1 : (r3 == 1099511627776) = false := by assumption
       have h2 : r3 = Px.lmNever := by assumption
       rw [h2] at h1
       simp [Px.lmNever] at h1)
    | (have e : min 1099511627776 (wrap64 (r3 + Px.lmLst c l reg d (i + 1) r1 r2)) = imin Px.lmNever (iadd .i64 r3 (Px.lmLst c l reg d (i + 1) r1 r2)) := by rw [iaddW, min_imin]; rfl
       exact ⟨congrArg (fun z => Ending.returned (Value.int .i64 z)) e, HM2.out, (Below.grown' HB.out _).trans HG2.out⟩)
end Go.Proofs.Ytlfmmkekhponbaa.WkFnRegular
namespace Go.Proofs.Ytlfmmkekhponbaa.WkFnRegular
open Go.RowKit Go.Lib Go.Rx Go.Proofs
def TotOk (A : LimA) (c : (List Int × List Int × List Int × List Int)) (l : List Int) (reg : Bool) : Prop := ∀ (w1 : World) (i : Nat), LimW w1 A c l reg → i ≤ A.n → Calls Go.Proofs.Try.prog 77 #[.slice (if A.kn = i then A.An else Option.map (fun x => x.add i) A.An) (A.n - i) (A.kn - i)] w1 fun e w' => e = .returned (.int .i64 (c.1.drop i).sum) ∧ Below w1.heap.size w1 w'
theorem least_zero {A : LimA} {c : (List Int × List Int × List Int × List Int)} {l : List Int} {reg : Bool} (hn : A.n ≤ 8) (hT : TotOk A c l reg) : LeastOk A c l reg 0 := by
  intro i s p w k hid hs hp hW hM hk
  have hi : i = A.n := by omega
  have ht := hT w i hW (by omega)
  have HM := Aside.mk' hM
  have hv : Px.lmLst c l reg 0 i s p = if (c.1.drop i).sum < s then Px.lmNever else 0 := rfl
  rw [hv]
  generalize (c.1.drop i).sum = q at ht ⊢
  have g0 := hW.c0
  have HK : Aside (∀ w', Below w.heap.size w w' → LimW w' A c l reg) := fun w' hb => hW.kept (Below.grown' hb _)
  clear hW hM hT hs hp hv
  obtain ⟨b, m, n, An, As, Au, Ah, Al, kn, ks, ku, kh, kl⟩ := A
  simp only at hn hi g0 hid ht
  subst hi
  rw [Nat.sub_self] at ht
  have HT := Aside.mk' ht
  clear ht
  go_enter Go.Proofs.Try.func87, Go.Proofs.Try.ntmps87
  go_wp2_with (go_at_call 77; refine HT.out.mono ?_; rintro e w1 ⟨rfl, hb⟩; have HB := Aside.mk' hb; have g1 := (HK.out w1 hb).c0; clear hb; simp only at g1)
  all_goals go_returns
  all_goals (obtain ⟨D, hD⟩ := HM.out; exact ⟨rfl, ⟨D, (hD.kept (Below.grown' HB.out none)).mono (by omega)⟩, Below.grown' HB.out _⟩)
theorem drew_grown (w : World) (row : Option Nat) : w.grownBy w.drew row := ⟨rfl, rfl, rfl, Nat.le_refl _, fun _ _ _ => rfl⟩
theorem arr98 : Go.WideMaps.ArrKey Go.Proofs.Try.prog 98 3 3 := ⟨by kernel_rfl, by kernel_rfl, by kernel_rfl, by kernel_rfl⟩
theorem map82 : Go.Proofs.Try.prog.underlying 82 = some (.map 98 3) := by kernel_rfl
theorem int3 : Go.Proofs.Try.prog.underlying 3 = some (.int .i64) := by kernel_rfl
theorem zero3 (w : World) : (zeroValue 3).run Go.Proofs.Try.prog w = .ok (.int .i64 0) w := by rfl
theorem tsz : ∃ m, Go.Proofs.Try.prog.types.size = m + 1 := ⟨Go.Proofs.Try.prog.types.size - 1, by kernel_rfl⟩
theorem cntL_bd : ∀ d, d ≤ 8 → cntL d ≤ 100000000000000000 := by
  intro d hd
  have : d = 0 ∨ d = 1 ∨ d = 2 ∨ d = 3 ∨ d = 4 ∨ d = 5 ∨ d = 6 ∨ d = 7 ∨ d = 8 := by omega
  rcases this with rfl | rfl | rfl | rfl | rfl | rfl | rfl | rfl | rfl <;> decide
theorem least_succ {A : LimA} {c : (List Int × List Int × List Int × List Int)} {l : List Int} {reg : Bool} {d : Nat} (hn : A.n ≤ 8) (hl : ∀ j : Nat, j < A.n → 0 ≤ gd l j 0 ∧ gd l j 0 ≤ 160) (hT : TotOk A c l reg) (hWi : WithOk A c l reg d) : LeastOk A c l reg (d + 1) := by
  intro i s p w k hid hs hp hW hM hk
  have hi : i < A.n := by omega
  have ht := hT w i hW (by omega)
  have HM := Aside.mk' hM
  have HV : Aside (Px.lmLst c l reg (d + 1) i s p = if (c.1.drop i).sum < s then Px.lmNever else Px.lmMn (fun x => Px.lmWth c l reg (Px.lmLst c l reg d (i + 1)) i s p x) (gd l i 0 + 1).toNat) := rfl
  obtain ⟨Q, hQ⟩ : ∃ Q : Ending → World → Prop, Q = fun e w' => e = .returned (.int .i64 (Px.lmLst c l reg (d + 1) i s p)) ∧ MemoL w' A c l reg (k + cntL (d + 1)) ∧ w.grownBy w' (some A.m) := ⟨_, rfl⟩
  rw [← hQ]
  have HQ := Aside.mk' hQ
  generalize hq : (c.1.drop i).sum = q at ht
  have HQQ := Aside.mk' hq
  have g0 := hW.c0
  have HW := Aside.mk' hW
  have HWI := Aside.mk' hWi
  have HL := Aside.mk' (hl i hi)
  have HK := Aside.mk' hk
  have HP := Aside.mk' (And.intro hs hp)
  clear hW hM hT hs hp hQ hq hWi hl hk
  obtain ⟨b, m, n, An, As, Au, Ah, Al, kn, ks, ku, kh, kl⟩ := A
  simp only at hn hi g0 hid ht
  have HT := Aside.mk' ht
  clear ht
  go_enter Go.Proofs.Try.func87, Go.Proofs.Try.ntmps87
  go_wp2_with (go_at_call 77; refine HT.out.mono ?_; rintro e w1 ⟨rfl, hb⟩; have HB := Aside.mk' hb; have g1 := (HW.out.kept (Below.grown' hb _)).c0; clear hb; simp only at g1)
  all_goals first | (exfalso; have := HW.out.nk; simp only at this; omega) | skip
  · rw [HQ.out]
    obtain ⟨D, hD⟩ := HM.out
    exact ⟨by rw [HV.out, HQQ.out, if_pos (by assumption)]; rfl, ⟨D, (hD.kept (Below.grown' HB.out none)).mono (by omega)⟩, Below.grown' HB.out _⟩
  · have hsq : ¬ q < s := by omega
    have HSQ := Aside.mk' hsq
    have hW1 := HW.out.kept (Below.grown' HB.out _)
    have hW2 := hW1.kept (World.grownBy_alloc w1 (.cells #[.int .i64 (i : Int), .int .i64 s, .int .i64 p] 98) _)
    obtain ⟨D, hD⟩ := HM.out
    have hD2 := (hD.kept (Below.grown' HB.out none)).kept (World.grownBy_alloc w1 (.cells #[.int .i64 (i : Int), .int .i64 s, .int .i64 p] 98) none)
    have hn0 := heap_alloc_new w1 (.cells #[.int .i64 (i : Int), .int .i64 s, .int .i64 p] 98)
    have k0 : (w1.alloc (.cells #[.int .i64 (i : Int), .int .i64 s, .int .i64 p] 98)).cell? ⟨w1.heap.size, 0, none⟩ = some (.int .i64 (i : Int)) := by unfold World.cell?; simp only [hn0]; rfl
    have k1 : (w1.alloc (.cells #[.int .i64 (i : Int), .int .i64 s, .int .i64 p] 98)).cell? ⟨w1.heap.size, 1, none⟩ = some (.int .i64 s) := by unfold World.cell?; simp only [hn0]; rfl
    have k2 : (w1.alloc (.cells #[.int .i64 (i : Int), .int .i64 s, .int .i64 p] 98)).cell? ⟨w1.heap.size, 2, none⟩ = some (.int .i64 p) := by unfold World.cell?; simp only [hn0]; rfl
    have hgw : w.grownBy (w1.alloc (.cells #[.int .i64 (i : Int), .int .i64 s, .int .i64 p] 98)) (some m) := (Below.grown' HB.out _).trans (World.grownBy_alloc _ _ _)
    have hkb : w1.heap.size ≠ m := fun e => by have := (hD.kept (Below.grown' HB.out none)).own.lt; simp only at this; omega
    clear hn0 hW1
    generalize w1.alloc (.cells #[.int .i64 (i : Int), .int .i64 s, .int .i64 p] 98) = W at *
    generalize w1.heap.size = B at *
    obtain ⟨v, f, hf, hlook⟩ := hD2.look arr98 map82 int3 zero3 tsz (a := (i : Int)) (by unfold wfI; omega) HP.out.1 HP.out.2
    have c6 := hW2.c6
    simp only at c6 hlook
    have hl0 := hlook W hD2.own
    have hl1 := hlook W.drew hD2.own
    unfold key3 at hl0 hl1
    have HW2 := Aside.mk' hW2
    have HD2 := Aside.mk' hD2
    have HGW := Aside.mk' hgw
    have HF := Aside.mk' hf
    clear hD hD2 hlook hgw hW2 hf HB HM HT
    go_region_held3 (fun w' => w'.cell? ⟨b, 6, none⟩ = some (.map (some m)) ∧ w'.cell? ⟨B, 0, none⟩ = some (.int .i64 (i : Int)) ∧ w'.cell? ⟨B, 1, none⟩ = some (.int .i64 s) ∧ w'.cell? ⟨B, 2, none⟩ = some (.int .i64 p) ∧
      (Instr.lookup 82 (.map (some m)) (.agg #[.int .i64 (i : Int), .int .i64 s, .int .i64 p]) true).run Go.Proofs.Try.prog w' = .ok (.tuple #[.int .i64 v, .bool f]) w') (first | go_keep | (go_split_ands; refine ⟨by assumption, by assumption, by assumption, by assumption, ?_⟩; first | exact hl1 | exact hl0)) (fail)
    rename_i hHeld
    obtain ⟨d6, d0, d1, d2, dl⟩ := hHeld
    have hW3 := HW2.out.kept (drew_grown W _)
    obtain ⟨al, ha4, n4, _⟩ := hW3.e4 i hi
    have c4 := hW3.c4
    rw [ha4] at c4
    have hlm := HL.out
    have hD3 := HD2.out.kept (drew_grown W none)
    have hG3 := HGW.out.trans (drew_grown W _)
    simp only at c4 ha4 hD3
    have HLM := Aside.mk' hlm
    have HW3 := Aside.mk' hW3
    have HD3 := Aside.mk' hD3
    have HG3 := Aside.mk' hG3
    generalize W.drew = X at *
    clear hW3 hD3 hG3 hl0 hl1 dl HW2 HD2 HGW c6 k0 k1 k2 hlm
    generalize hlmd : gd l i 0 = lm at *
    obtain ⟨L, rfl⟩ : ∃ L : Nat, lm = (L : Int) := ⟨lm.toNat, by have := HLM.out.1; omega⟩
    have hL160 : L ≤ 160 := by have := HLM.out.2; omega
    have HLMD := Aside.mk' hlmd
    clear hlmd
    obtain ⟨F, hFd⟩ : ∃ F : Nat → Int, F = fun (x : Nat) => Px.lmWth c l reg (Px.lmLst c l reg d (i + 1)) i s p x := ⟨_, rfl⟩
    have HFD := Aside.mk' hFd
    clear hFd
    go_wp2
    · rw [HQ.out]
      refine ⟨?_, ⟨D, HD3.out.mono (by omega)⟩, HG3.out⟩
      rw [HF.out (by assumption)]
      unfold lstM
      rw [Int.toNat_natCast, show n - i = d + 1 by omega]
    · go_loopg [12, 57] (L + 1) (fun g s12 s57 wr => ∃ j : Nat, j ≤ L + 1 ∧ L + 1 - j ≤ g ∧ s57 = .int .i64 j ∧ s12 = .int .i64 (Px.lmMn F j) ∧ Aside (MemoL wr ⟨b, m, n, An, As, Au, Ah, Al, kn, ks, ku, kh, kl⟩ c l reg (k + j * cntL d)) ∧ Aside (w.grownBy wr (some m)) ∧ Aside (X.grownBy wr (some m)))
      case atStart => exact ⟨0, by omega, by omega, rfl, rfl, ⟨D, by rw [Nat.zero_mul, Nat.add_zero]; exact HD3.out⟩, HG3.out, World.grownBy.refl _ _⟩
      case round =>
        obtain ⟨j, hj, hg, rfl, rfl, R1, R2, R3⟩ := hrel
        by_cases hlt : j < L + 1
        · have hcall : Calls Go.Proofs.Try.prog 88 #[.pointer (some ⟨b, 0, none⟩), .int .i64 i, .int .i64 s, .int .i64 p, .int .i64 (j : Int)] wr fun e w' => e = .returned (.int .i64 (F j)) ∧ MemoL w' ⟨b, m, n, An, As, Au, Ah, Al, kn, ks, ku, kh, kl⟩ c l reg (k + (j + 1) * cntL d) ∧ wr.grownBy w' (some m) := by
            have hk := HK.out
            have hmul : j * cntL d ≤ 160 * cntL d := Nat.mul_le_mul_right _ (by omega)
            have hc1 : cntL (d + 1) = 161 * cntL d + 1 := rfl
            have e1 : (j + 1) * cntL d = j * cntL d + cntL d := Nat.succ_mul _ _
            have := HWI.out i s p (j : Int) wr (k + j * cntL d) hid HP.out.1 HP.out.2 (HW.out.kept R2.out) R1.out (by omega)
            rw [e1, ← Nat.add_assoc, HFD.out]
            exact this
          have HC := Aside.mk' hcall
          clear hcall
          go_wp2_with (go_at_call 88; refine HC.out.mono ?_; rintro e w2 ⟨rfl, hm, hg2⟩; have HM2 := Aside.mk' hm; have HG2 := Aside.mk' hg2; clear hm hg2)
          go_roundg (L + 1 - (j + 1))
          case measure => omega
          case rel => exact ⟨j + 1, by omega, by omega, by go_num, congrArg (Value.int .i64) (min_imin _ _), HM2.out, R2.out.trans HG2.out, R3.out.trans HG2.out⟩
        · have hjl : j = L + 1 := by omega
          subst hjl
          obtain ⟨D2, hD2⟩ := R1.out
          have hD3 := hD2.kept (drew_grown wr none)
          have hv : lstM c l reg n (i : Int) s p = Px.lmMn F (L + 1) := by
            unfold lstM
            rw [Int.toNat_natCast, show n - i = d + 1 by omega]
            show (if (c.1.drop i).sum < s then Px.lmNever else Px.lmMn (fun (x : Nat) => Px.lmWth c l reg (Px.lmLst c l reg d (i + 1)) i s p x) (gd l i 0 + 1).toNat) = _
            rw [HQQ.out, if_neg (by omega), HLMD.out, HFD.out]
            rfl
          have hwv : wfI (lstM c l reg n (i : Int) s p) := lstC_wfI _ _ _ _ _ _ _
          have hk := HK.out
          have hc1 : cntL (d + 1) = 161 * cntL d + 1 := rfl
          have hmul : (L + 1) * cntL d ≤ 161 * cntL d := Nat.mul_le_mul_right _ (by omega)
          obtain ⟨w3, D3, hU, hM3, hG3⟩ := hD3.store arr98 map82 int3 tsz (by unfold CAP at hk; unfold maxLen; omega) (a := (i : Int)) (by unfold wfI; omega) HP.out.1 HP.out.2 hwv
          rw [hv] at hU
          unfold key3 at hU
          simp only at hU
          have q6 : wr.cell? ⟨b, 6, none⟩ = some (.map (some m)) := R3.out.cell d6 (fun e => HW.out.bm (by simpa using e))
          have q0 : wr.cell? ⟨B, 0, none⟩ = some (.int .i64 (i : Int)) := R3.out.cell d0 (fun e => hkb (by simpa using e))
          have q1 : wr.cell? ⟨B, 1, none⟩ = some (.int .i64 s) := R3.out.cell d1 (fun e => hkb (by simpa using e))
          have q2 : wr.cell? ⟨B, 2, none⟩ = some (.int .i64 p) := R3.out.cell d2 (fun e => hkb (by simpa using e))
          have p6 := hG3.cell (w := wr.drew) q6 (fun e => HW.out.bm (by simpa using e))
          have p0 := hG3.cell (w := wr.drew) q0 (fun e => hkb (by simpa using e))
          have p1 := hG3.cell (w := wr.drew) q1 (fun e => hkb (by simpa using e))
          have p2 := hG3.cell (w := wr.drew) q2 (fun e => hkb (by simpa using e))
          have HM3 : Aside (MemoL w3 ⟨b, m, n, An, As, Au, Ah, Al, kn, ks, ku, kh, kl⟩ c l reg (k + cntL (d + 1))) := ⟨D3, hM3.mono (by omega)⟩
          have HG4 : Aside (w.grownBy w3 (some m)) := (R2.out.trans (drew_grown wr _)).trans hG3
          have HVV := Aside.mk' hv
          clear hM3 hG3 hD2 hD3 hk hc1 hmul hv hwv c4 n4 ha4 d6 d0 d1 d2
          go_wp2
          go_region_held3 (fun w' => w'.cell? ⟨b, 6, none⟩ = some (.map (some m)) ∧ w'.cell? ⟨B, 0, none⟩ = some (.int .i64 (i : Int)) ∧ w'.cell? ⟨B, 1, none⟩ = some (.int .i64 s) ∧ w'.cell? ⟨B, 2, none⟩ = some (.int .i64 p)) (first | go_keep | exact ⟨p6, p0, p1, p2⟩) (fail)
          all_goals go_wp2
          rw [HQ.out]
          refine ⟨?_, HM3.out, HG4.out⟩
          have h := HVV.out
          unfold lstM at h
          rw [Int.toNat_natCast, show n - i = d + 1 by omega] at h
          rw [h]
          rfl
/-- Both, from the last period to the first. -/
theorem least_ok {A : LimA} {c : (List Int × List Int × List Int × List Int)} {l : List Int} {reg : Bool} (hn : A.n ≤ 8) (hl : ∀ j : Nat, j < A.n → 0 ≤ gd l j 0 ∧ gd l j 0 ≤ 160) (hT : TotOk A c l reg) : ∀ d, LeastOk A c l reg d
  | 0 => least_zero hn hT
  | d + 1 => least_succ hn hl hT (with_ok hn (least_ok hn hl hT d))
end Go.Proofs.Ytlfmmkekhponbaa.WkFnRegular
namespace Go.Proofs.Ytlfmmkekhponbaa.WkFnRegular
open Go.RowKit Go.Lib Go.Rx Go.Proofs
theorem fstF_le (f : Nat → Int) (v : Int) : ∀ k x, x ≤ Px.lmFst f v k x ∧ Px.lmFst f v k x ≤ x + k
  | 0, x => by simp [Px.lmFst]
  | k + 1, x => by
    simp only [Px.lmFst]
    have := fstF_le f v k (x + 1)
    split <;> omega
theorem fstF_ne (f : Nat → Int) (v : Int) : ∀ k x y, x ≤ y → y < Px.lmFst f v k x → f y ≠ v
  | 0, x, y, h1, h2 => by simp only [Px.lmFst] at h2; omega
  | k + 1, x, y, h1, h2 => by
    simp only [Px.lmFst] at h2
    split at h2
    · omega
    · rename_i hne
      by_cases e : y = x
      · rw [e]; exact hne
      · exact fstF_ne f v k (x + 1) y (by omega) h2
theorem planC_succ {c : (List Int × List Int × List Int × List Int)} {l : List Int} {reg : Bool} {d i : Nat} {s p : Int} {w : List Int} (h : Px.lmPlan c l reg (d + 1) i s p = some w) : ∃ (x : Nat) (w' : List Int), x ≤ 161 ∧ Px.lmWthN c l reg d i s p x = Px.lmLst c l reg (d + 1) i s p ∧ (∀ y, y < x → Px.lmWthN c l reg d i s p y ≠ Px.lmLst c l reg (d + 1) i s p) ∧ w = (x : Int) :: w' ∧ Px.lmPlan c l reg d (i + 1) (Px.lmAftC c l reg i s p (x : Int)).1 (Px.lmAftC c l reg i s p (x : Int)).2.1 = some w' := by
  simp only [Px.lmPlan] at h
  split at h
  · rename_i hx
    rw [Option.map_eq_some_iff] at h
    obtain ⟨w', h1, h2⟩ := h
    have h3 := (fstF_le (Px.lmWthN c l reg d i s p) (Px.lmLst c l reg (d + 1) i s p) 161 0).2
    exact ⟨_, w', by omega, hx, fun y hy => fstF_ne _ _ 161 0 y (by omega) hy, h2.symm, h1⟩
  · cases h
def CALL : Nat := 3000000000000000
theorem cntL_M {d : Nat} (h : d ≤ 8) : cntL d ≤ CALL := by
  have : d = 0 ∨ d = 1 ∨ d = 2 ∨ d = 3 ∨ d = 4 ∨ d = 5 ∨ d = 6 ∨ d = 7 ∨ d = 8 := by omega
  rcases this with rfl | rfl | rfl | rfl | rfl | rfl | rfl | rfl | rfl <;> decide
theorem call_bd' (C c t j : Nat) (hC : C = 3000000000000000) (ht : t ≤ 8) (hj : j ≤ 164) (hc : c ≤ C) : 163 * t * C + j * C + c ≤ 9000000000000000000 := by subst hC; omega
theorem call_bd {t j d : Nat} (ht : t ≤ 8) (hj : j ≤ 164) (hd : d ≤ 8) : 163 * t * CALL + j * CALL + cntL d ≤ CAP := call_bd' CALL (cntL d) t j rfl ht hj (cntL_M hd)
theorem call_next (C t y c : Nat) (hy : y ≤ 161) (hc : c ≤ C) : 163 * t * C + (1 + y) * C + c ≤ 163 * (t + 1) * C := by
  have h1 : (1 + y) * C ≤ 162 * C := Nat.mul_le_mul_right C (by omega)
  have h2 : 163 * (t + 1) * C = 163 * t * C + 163 * C := by rw [Nat.mul_add, Nat.add_mul, Nat.mul_one]
  omega
theorem Memo.kept' {P : Program} {w w' : World} {k e : TypeId} {m n : Nat} {V : Int → Int → Int → Int} {D : DataW Unit} {row : Option Nat} (h : Memo P w k e m n V D) (hg : w.grownBy w' row) (hne : some m ≠ row) : Memo P w' k e m n V D := ⟨h.own.kept hg hne, h.val⟩
theorem own_none (v : Value) : v.ownBlock = none ∨ v.ownBlock ≠ none := by cases v.ownBlock <;> simp
theorem int_info0 : (Go.Proofs.Try.prog.info? 3).map (fun i => (i.zero, i.size, i.bytes)) = some (some (.int .i64 0), 1, 8) := by kernel_rfl
theorem int_info : ∃ i0, Go.Proofs.Try.prog.info? 3 = some i0 ∧ i0.zero = some (.int .i64 0) ∧ i0.size = 1 ∧ i0.bytes = 8 := by
  have h := int_info0
  cases hh : Go.Proofs.Try.prog.info? 3 with
  | none => rw [hh] at h; cases h
  | some i =>
    rw [hh] at h
    simp only [Option.map_some, Option.some.injEq, Prod.mk.injEq] at h
    exact ⟨i, rfl, h.1, h.2.1, h.2.2⟩
theorem int_slice : Go.Proofs.Try.prog.underlying 24 = some (.slice 3) := by kernel_rfl
theorem plan_walk {A : LimA} {c : (List Int × List Int × List Int × List Int)} {l : List Int} {reg : Bool} (hn : A.n ≤ 8) (hl : ∀ j : Nat, j < A.n → 0 ≤ gd l j 0 ∧ gd l j 0 ≤ 160) (hT : TotOk A c l reg) (w : World) (hW : LimW w A c l reg) (hM : MemoL w A c l reg 0) (hm : A.m < w.heap.size) (full : List Int) (hp : Px.lmPlan c l reg A.n 0 0 0 = some full) :
    Calls Go.Proofs.Try.prog 71 #[.pointer (some ⟨A.b, 0, none⟩)] w fun e w' => ∃ v, e = .returned (.tuple #[v, .int .i64 (Px.lmLst c l reg A.n 0 0 0)]) ∧ w'.ownsRow 0 3 1 v full.length (full.map (Value.int .i64)) ∧ (∀ b, v.ownBlock = some b → w.heap.size ≤ b) ∧ w.grownBy w' (some A.m) := by
  have HLE := Aside.mk' (least_ok hn hl hT)
  have HWI := Aside.mk' (fun d => with_ok (d := d) hn (least_ok hn hl hT d))
  have HW := Aside.mk' hW
  have HM := Aside.mk' hM
  have HP := Aside.mk' hp
  have g0 := hW.c0
  obtain ⟨Q, hQ⟩ : ∃ Q : Ending → World → Prop, Q = fun e w' => ∃ v, e = .returned (.tuple #[v, .int .i64 (Px.lmLst c l reg A.n 0 0 0)]) ∧ w'.ownsRow 0 3 1 v full.length (full.map (Value.int .i64)) ∧ (∀ b, v.ownBlock = some b → w.heap.size ≤ b) ∧ w.grownBy w' (some A.m) := ⟨_, rfl⟩
  rw [← hQ]
  have HQ := Aside.mk' hQ
  clear hW hM hp hQ hl hT
  obtain ⟨b, m, n, An, As, Au, Ah, Al, kn, ks, ku, kh, kl⟩ := A
  simp only at hn g0 hm
  have g1 : (w.alloc (.cells #[] 3)).cell? ⟨b, 0, none⟩ = some (.slice An n kn) := (World.grownBy_alloc w (.cells #[] 3) none).cell g0 (by simp)
  have hr0 : (w.alloc (.cells #[] 3)).ownsRow 0 3 1 (.slice (some ⟨w.heap.size, 0, none⟩) 0 0) 0 [] := ⟨rfl, .inr ⟨w.heap.size, 0, #[], rfl, Nat.zero_le _, heap_alloc_new w _, Nat.le_refl _, Nat.zero_le _, rfl, rfl⟩⟩
  have HR0 := Aside.mk' hr0
  clear hr0
  go_enter Go.Proofs.Try.func71, Go.Proofs.Try.ntmps71
  go_wp2
  go_loopg [4, 5, 6, 17] n (fun g s4 s5 s6 s17 wr => ∃ (t : Nat) (pre suf : List Int) (s p : Int), t ≤ n ∧ n - t ≤ g ∧ s17 = .int .i64 t ∧ s5 = .int .i64 s ∧ s6 = .int .i64 p ∧ Aside (wfI s ∧ wfI p) ∧ Aside (Px.lmPlan c l reg (n - t) t s p = some suf ∧ full = pre ++ suf ∧ pre.length = t) ∧
    Aside (wr.ownsRow 0 3 1 s4 t (pre.map (Value.int .i64))) ∧ Aside (∀ b, s4.ownBlock = some b → w.heap.size ≤ b) ∧ Aside (MemoL wr ⟨b, m, n, An, As, Au, Ah, Al, kn, ks, ku, kh, kl⟩ c l reg (163 * t * CALL)) ∧ Aside (w.grownBy wr (some m)))
  case atStart =>
    refine ⟨0, [], full, 0, 0, by omega, by omega, rfl, rfl, rfl, ⟨by unfold wfI; omega, by unfold wfI; omega⟩, ⟨HP.out, rfl, rfl⟩, HR0.out, fun b hb => ?_, ?_, World.grownBy_alloc _ _ _⟩
    · simp only [Value.ownBlock, Option.some.injEq] at hb
      omega
    · obtain ⟨D, hD⟩ := HM.out
      exact ⟨D, (hD.kept (World.grownBy_alloc _ _ _)).mono (by omega)⟩
  case round =>
    obtain ⟨t, pre, suf, s, p, htn, hg, rfl, rfl, rfl, WF, PL, OW, OB, MM, GG⟩ := hrel
    clear g0 g1 HR0
    by_cases hlt : t < n
    · obtain ⟨d, hd⟩ : ∃ d, n - t = d + 1 := ⟨n - t - 1, by omega⟩
      obtain ⟨q1, q2, q3⟩ := PL.out
      rw [hd] at q1
      obtain ⟨x, suf', x1, x2, x3, x4, x5⟩ := planC_succ q1
      have hle := HLE.out (d + 1) t s p wr (163 * t * CALL) (by show t + (d + 1) = n; omega) WF.out.1 WF.out.2 (HW.out.kept GG.out) MM.out (by have := call_bd (t := t) (j := 0) (d := d + 1) (by omega) (by omega) (by omega); rw [Nat.zero_mul, Nat.add_zero] at this; exact this)
      obtain ⟨v, hv⟩ : ∃ v, v = Px.lmLst c l reg (d + 1) t s p := ⟨_, rfl⟩
      rw [← hv] at x2 x3 hle
      have X2 := Aside.mk' x2
      have X3 := Aside.mk' x3
      have X5 := Aside.mk' x5
      have XF : Aside (full = pre ++ ((x : Int) :: suf')) := x4 ▸ q2
      have XL := Aside.mk' q3
      have HC := Aside.mk' hle
      clear q1 q2 q3 x2 x3 x4 x5 hle hv
      go_wp2_with (go_at_call 87; refine HC.out.mono ?_; rintro e w2 ⟨rfl, hm2, hg2⟩; have HM2 := Aside.mk' hm2; have HG2 := Aside.mk' hg2; clear hm2 hg2)
      have hcd : cntL (d + 1) ≤ CALL := cntL_M (by omega)
      have M2 : Aside (MemoL w2 ⟨b, m, n, An, As, Au, Ah, Al, kn, ks, ku, kh, kl⟩ c l reg (163 * t * CALL + 1 * CALL)) := by
        obtain ⟨D, hD⟩ := HM2.out
        exact ⟨D, hD.mono (by rw [Nat.one_mul]; exact Nat.add_le_add_left hcd _)⟩
      have G2 : Aside (w.grownBy w2 (some m)) := GG.out.trans HG2.out
      clear HM2 hcd HC
      go_loopg [8] x (fun g s8 w3 => ∃ y : Nat, y ≤ x ∧ x - y ≤ g ∧ s8 = .int .i64 y ∧ Aside (MemoL w3 ⟨b, m, n, An, As, Au, Ah, Al, kn, ks, ku, kh, kl⟩ c l reg (163 * t * CALL + (1 + y) * CALL)) ∧ Aside (w.grownBy w3 (some m)) ∧ Aside (wr.grownBy w3 (some m)))
      case atStart => exact ⟨0, by omega, by omega, rfl, M2.out, G2.out, HG2.out⟩
      case round =>
        obtain ⟨y, hy, hgy, rfl, MY, GY, GZ⟩ := hrel
        clear M2 G2 HG2
        have hcd : cntL d ≤ CALL := cntL_M (by omega)
        have hcall := HWI.out d t s p (y : Int) wr (163 * t * CALL + (1 + y) * CALL) (by show t + (d + 1) = n; omega) WF.out.1 WF.out.2 (HW.out.kept GY.out) MY.out (call_bd (by omega) (by omega) (by omega))
        obtain ⟨u, hu⟩ : ∃ u, u = Px.lmWthN c l reg d t s p y := ⟨_, rfl⟩
        change Calls Go.Proofs.Try.prog 88 #[.pointer (some ⟨b, 0, none⟩), .int .i64 t, .int .i64 s, .int .i64 p, .int .i64 (y : Int)] wr (fun e w' => e = .returned (.int .i64 (Px.lmWthN c l reg d t s p y)) ∧ MemoL w' ⟨b, m, n, An, As, Au, Ah, Al, kn, ks, ku, kh, kl⟩ c l reg (163 * t * CALL + (1 + y) * CALL + cntL d) ∧ wr.grownBy w' (some m)) at hcall
        rw [← hu] at hcall
        have HC := Aside.mk' hcall
        have HCD := Aside.mk' hcd
        have HU := Aside.mk' hu
        clear hcall hcd hu
        by_cases hlt2 : y < x
        · have hne : ¬ u = v := by rw [HU.out]; exact X3.out y hlt2
          go_wp2_with (go_at_call 88; refine HC.out.mono ?_; rintro e w2 ⟨rfl, hm2, hg2⟩; have HM2 := Aside.mk' hm2; have HG2 := Aside.mk' hg2; clear hm2 hg2)
          all_goals first | (exfalso; have h1 : (u == v) = true := by assumption; exact hne (by simpa using h1)) | skip
          go_roundg (x - (y + 1))
          case measure => omega
          case rel =>
            refine ⟨y + 1, by omega, by omega, by go_num, ?_, GY.out.trans HG2.out, GZ.out.trans HG2.out⟩
            obtain ⟨D, hD⟩ := HM2.out
            refine ⟨D, hD.mono ?_⟩
            rw [show (1 + (y + 1)) * CALL = (1 + y) * CALL + CALL from Nat.succ_mul _ _, ← Nat.add_assoc]
            exact Nat.add_le_add_left HCD.out _
        · obtain rfl : y = x := by omega
          have hue : u = v := by rw [HU.out]; exact X2.out
          subst hue
          have hnem : u4.ownBlock ≠ some m := fun e => by have := OB.out m e; omega
          have HAF : Aside (∀ w5, w.grownBy w5 (some m) → Calls Go.Proofs.Try.prog 89 #[.pointer (some ⟨b, 0, none⟩), .int .i64 t, .int .i64 s, .int .i64 p, .int .i64 (y : Int)] w5 fun e w' => e = .returned (aftV (Px.lmAftC c l reg t s p (y : Int))) ∧ Below w5.heap.size w5 w') := fun w5 hg5 => after_ok (HW.out.kept hg5) hlt s p (y : Int)
          have hwf : wfI (Px.lmAftC c l reg t s p (y : Int)).1 ∧ wfI (Px.lmAftC c l reg t s p (y : Int)).2.1 := aft_wfI reg (gd c.1 t 0) (gd c.2.1 t 0) (gd c.2.2.1 t 0) (gd c.2.2.2 t 0) (gd l t 0) (s := s) (y : Int) WF.out.2
          have hx5 := X5.out
          clear X5
          generalize Px.lmAftC c l reg t s p (y : Int) = r at HAF hwf hx5
          obtain ⟨r1, r2, r3⟩ := r
          simp only at hwf hx5
          have HWF := Aside.mk' hwf
          have HX5 := Aside.mk' hx5
          have HAF2 : Aside (∀ w5, w.grownBy w5 (some m) → Calls Go.Proofs.Try.prog 89 #[.pointer (some ⟨b, 0, none⟩), .int .i64 t, .int .i64 s, .int .i64 p, .int .i64 (y : Int)] w5 fun e w' => e = .returned (.tuple #[.int .i64 r1, .int .i64 r2, .int .i64 r3]) ∧ Below w5.heap.size w5 w') := HAF
          clear hwf hx5 HAF
          go_wp2_with (first
            | (go_at_call 88; refine HC.out.mono ?_; rintro e w2 ⟨rfl, hm2, hg2⟩; have HM2 := Aside.mk' hm2; have HG2 := Aside.mk' hg2; have OW2 := Aside.mk' ((OW.out.kept (GZ.out.trans hg2) (Or.inr hnem)).kept (World.grownBy_alloc w2 (.cells #[.int .i64 (y : Int)] 3) none) (own_none _)); clear hm2 hg2)
            | (at_builtin; refine wpList_append_own_at _ rfl _ _ 24 rfl 0 3 _ (.int .i64 0) 1 8 int_slice int_info.choose_spec.1 int_info.choose_spec.2.1 int_info.choose_spec.2.2.1 int_info.choose_spec.2.2.2 rfl (by omega) _ _ _ rfl OW2.out _ 1 1 [.int .i64 (y : Int)] rfl rfl (cell_one_new _ _ _) (by simp [Value.oneCell']) (by unfold maxLen; omega) (by omega) (Nat.zero_le _) ?_; intro v2 w4 a1 a2 a3 a4; have A1 := Aside.mk' a1; have A2 := Aside.mk' a2; have A4 := Aside.mk' a4; have G4 := Aside.mk' (((GY.out.trans HG2.out).trans (World.grownBy_alloc _ _ _)).andThen a2 (fun j e => .inl (OB.out j e))); have GM := Aside.mk' (World.grownBy.refl w4 none); clear a1 a2 a3 a4)
            | (go_at_call 89; refine (HAF2.out _ G4.out).mono ?_; rintro e w6 ⟨rfl, hb6⟩; have HB6 := Aside.mk' hb6; clear hb6))
          go_roundg (n - (t + 1))
          case measure => omega
          case rel =>
            refine ⟨t + 1, pre ++ [(y : Int)], suf', r1, r2, by omega, by omega, by go_num, rfl, rfl, HWF.out, ⟨by rw [show n - (t + 1) = d by omega]; exact HX5.out, by rw [XF.out]; simp, by simp [XL.out]⟩, ?_, ?_, ?_, G4.out.trans (Below.grown' HB6.out _)⟩
            · rw [List.map_append]
              exact A1.out.kept (Below.grown' HB6.out none) (own_none _)
            · intro b2 hb2
              rcases A4.out with h | h
              · exact OB.out b2 (h ▸ hb2)
              · rw [h] at hb2
                have h1 := (GY.out.trans HG2.out).size
                have h2 : (w2.alloc (.cells #[.int .i64 (y : Int)] 3)).heap.size = w2.heap.size + 1 := by simp
                cases hb2
                omega
            · obtain ⟨D, hD⟩ := HM2.out
              have hD4 := Memo.kept' (hD.kept (World.grownBy_alloc w2 (.cells #[.int .i64 (y : Int)] 3) none)) A2.out (fun e => hnem e.symm)
              exact ⟨D, (hD4.kept (Below.grown' HB6.out none)).mono (call_next CALL t y _ x1 HCD.out)⟩
    · obtain rfl : t = n := by omega
      have hle := HLE.out t 0 0 0 wr (163 * t * CALL) (by show 0 + t = t; omega) (by unfold wfI; omega) (by unfold wfI; omega) (HW.out.kept GG.out) MM.out (by have := call_bd (t := t) (j := 0) (d := t) (by omega) (by omega) (by omega); rw [Nat.zero_mul, Nat.add_zero] at this; exact this)
      have hle2 : Calls Go.Proofs.Try.prog 87 #[.pointer (some ⟨b, 0, none⟩), .int .i64 0, .int .i64 0, .int .i64 0] wr fun e w' => e = .returned (.int .i64 (Px.lmLst c l reg t 0 0 0)) ∧ wr.grownBy w' (some m) := hle.mono fun e w' h => ⟨h.1, h.2.2⟩
      have HC := Aside.mk' hle2
      obtain ⟨q1, q2, q3⟩ := PL.out
      rw [Nat.sub_self] at q1
      simp only [Px.lmPlan, Option.some.injEq] at q1
      subst q1
      rw [List.append_nil] at q2
      have HF := Aside.mk' (And.intro q2 q3)
      have hnem : u4.ownBlock ≠ some m := fun e => by have := OB.out m e; omega
      clear hle hle2 q2 q3
      go_wp2_with (go_at_call 87; refine HC.out.mono ?_; rintro e w2 ⟨rfl, hg2⟩; have HG2 := Aside.mk' hg2; clear hg2)
      all_goals rw [HQ.out]
      all_goals (refine ⟨u4, rfl, ?_, OB.out, GG.out.trans HG2.out⟩; rw [HF.out.1, HF.out.2]; exact OW.out.kept HG2.out (Or.inr hnem))
end Go.Proofs.Ytlfmmkekhponbaa.WkFnRegular
namespace Go.Proofs.Ytlfmmkekhponbaa.WkFnRegular
open Go.RowKit Go.Lib Go.Rx Go.Proofs
def RowAt (w : World) (n : Nat) (B : Option Addr) (f : Nat → Int) : Prop := ∀ j : Nat, j < n → ∃ a, B = some a ∧ w.cell? (a.add j) = some (.int .i64 (f j)) ∧ a.block < w.heap.size
theorem rowAt_ne {w w' : World} {n m : Nat} {B : Option Addr} {f : Nat → Int} (h : RowAt w n B f) (hg : w.grownBy w' none) (hm : w.heap.size ≤ m) : ∀ j : Nat, j < n → ∃ a, B = some a ∧ w'.cell? (a.add j) = some (.int .i64 (f j)) ∧ a.block ≠ m := fun j hj => by
  obtain ⟨a, h1, h2, h3⟩ := h j hj
  exact ⟨a, h1, hg.cell h2 (by simp), by omega⟩
theorem mk82 (w : World) : (Instr.makeMap 82 none).run Go.Proofs.Try.prog w = .ok (.map (some w.heap.size)) (w.alloc (.map #[] 0)) := by rfl
def limV (An As Au Ah : Option Addr) (n kn ks ku kh : Nat) : Value := .agg #[.slice An n kn, .slice As n ks, .slice Au n ku, .slice Ah n kh]
theorem plan_call {c : (List Int × List Int × List Int × List Int)} {l : List Int} {reg : Bool} (n : Nat) (An As Au Ah Al : Option Addr) (kn ks ku kh kl : Nat) (hn : n ≤ 8) (hl : ∀ j : Nat, j < n → 0 ≤ gd l j 0 ∧ gd l j 0 ≤ 160)
    (hT : ∀ b m, TotOk ⟨b, m, n, An, As, Au, Ah, Al, kn, ks, ku, kh, kl⟩ c l reg) (w : World)
    (r0 : RowAt w n An (fun j => gd c.1 j 0)) (r1 : RowAt w n As (fun j => gd c.2.1 j 0)) (r2 : RowAt w n Au (fun j => gd c.2.2.1 j 0)) (r3 : RowAt w n Ah (fun j => gd c.2.2.2 j 0)) (r4 : RowAt w n Al (fun j => gd l j 0))
    (nk : n ≤ kn) (ns : ∀ a, An = some a → 0 < n → a.spot = none) (nz : An = none → kn = 0) (full : List Int) (hp : Px.lmPlan c l reg n 0 0 0 = some full) (w2 : World) (hg : w.grownBy w2 none) :
    Calls Go.Proofs.Try.prog 71 #[.pointer (some ⟨w2.heap.size + 1, 0, none⟩)] ((w2.alloc (.map #[] 0)).alloc (.cells #[.slice An n kn, .slice As n ks, .slice Au n ku, .slice Ah n kh, .slice Al n kl, .bool reg, .map (some w2.heap.size)] 84))
      fun e w' => ∃ v, e = .returned (.tuple #[v, .int .i64 (Px.lmLst c l reg n 0 0 0)]) ∧ w'.ownsRow 0 3 1 v full.length (full.map (Value.int .i64)) ∧ (∀ b, v.ownBlock = some b → w.heap.size ≤ b) ∧ w.grownBy w' none := by
  have hs1 : (w2.alloc (.map #[] 0)).heap.size = w2.heap.size + 1 := by simp
  have hn0 := heap_alloc_new (w2.alloc (.map #[] 0)) (.cells #[.slice An n kn, .slice As n ks, .slice Au n ku, .slice Ah n kh, .slice Al n kl, .bool reg, .map (some w2.heap.size)] 84)
  rw [hs1] at hn0
  have hgX : w.grownBy ((w2.alloc (.map #[] 0)).alloc (.cells #[.slice An n kn, .slice As n ks, .slice Au n ku, .slice Ah n kh, .slice Al n kl, .bool reg, .map (some w2.heap.size)] 84)) none := (hg.trans (World.grownBy_alloc _ _ _)).trans (World.grownBy_alloc _ _ _)
  have hmem : Memo Go.Proofs.Try.prog ((w2.alloc (.map #[] 0)).alloc (.cells #[.slice An n kn, .slice As n ks, .slice Au n ku, .slice Ah n kh, .slice Al n kl, .bool reg, .map (some w2.heap.size)] 84)) 98 3 w2.heap.size 0 (lstM c l reg n) (.map []) := (Memo.made w2 _).kept (World.grownBy_alloc _ _ _)
  have hszX : w2.heap.size < ((w2.alloc (.map #[] 0)).alloc (.cells #[.slice An n kn, .slice As n ks, .slice Au n ku, .slice Ah n kh, .slice Al n kl, .bool reg, .map (some w2.heap.size)] 84)).heap.size := hmem.own.lt
  generalize (w2.alloc (.map #[] 0)).alloc (.cells #[.slice An n kn, .slice As n ks, .slice Au n ku, .slice Ah n kh, .slice Al n kl, .bool reg, .map (some w2.heap.size)] 84) = X at *
  have hwm : w.heap.size ≤ w2.heap.size := hg.size
  have hW : LimW X ⟨w2.heap.size + 1, w2.heap.size, n, An, As, Au, Ah, Al, kn, ks, ku, kh, kl⟩ c l reg :=
    ⟨by unfold World.cell?; simp only [hn0]; rfl, by unfold World.cell?; simp only [hn0]; rfl, by unfold World.cell?; simp only [hn0]; rfl, by unfold World.cell?; simp only [hn0]; rfl, by unfold World.cell?; simp only [hn0]; rfl, by unfold World.cell?; simp only [hn0]; rfl, by unfold World.cell?; simp only [hn0]; rfl,
      rowAt_ne r0 hgX hwm, rowAt_ne r1 hgX hwm, rowAt_ne r2 hgX hwm, rowAt_ne r3 hgX hwm, rowAt_ne r4 hgX hwm, by show w2.heap.size + 1 ≠ w2.heap.size; omega, nk, ns, nz⟩
  refine (plan_walk (A := ⟨w2.heap.size + 1, w2.heap.size, n, An, As, Au, Ah, Al, kn, ks, ku, kh, kl⟩) hn hl (hT _ _) X hW ⟨_, hmem⟩ hszX full hp).mono ?_
  rintro e w' ⟨v, h1, h2, h3, h4⟩
  exact ⟨v, h1, h2, fun b hb => Nat.le_trans hgX.size (h3 b hb), hgX.andThen h4 (fun j e => .inl (by cases e; exact hwm))⟩
theorem limited_walk {c : (List Int × List Int × List Int × List Int)} {l : List Int} {reg : Bool} (n : Nat) (An As Au Ah Al : Option Addr) (kn ks ku kh kl : Nat) (hn : n ≤ 8) (hl : ∀ j : Nat, j < n → 0 ≤ gd l j 0 ∧ gd l j 0 ≤ 160)
    (hT : ∀ b m, TotOk ⟨b, m, n, An, As, Au, Ah, Al, kn, ks, ku, kh, kl⟩ c l reg) (w : World)
    (r0 : RowAt w n An (fun j => gd c.1 j 0)) (r1 : RowAt w n As (fun j => gd c.2.1 j 0)) (r2 : RowAt w n Au (fun j => gd c.2.2.1 j 0)) (r3 : RowAt w n Ah (fun j => gd c.2.2.2 j 0)) (r4 : RowAt w n Al (fun j => gd l j 0))
    (nk : n ≤ kn) (ns : ∀ a, An = some a → 0 < n → a.spot = none) (nz : An = none → kn = 0)
    (hC : ∀ w1, w.grownBy w1 none → Calls Go.Proofs.Try.prog 17 #[limV An As Au Ah n kn ks ku kh, .slice Al n kl] w1 fun e w' => e = .returned (.tuple #[.bool true, .bool true]) ∧ Below w1.heap.size w1 w')
    (full : List Int) (hp : Px.lmPlan c l reg n 0 0 0 = some full) :
    Calls Go.Proofs.Try.prog 35 #[limV An As Au Ah n kn ks ku kh, .slice Al n kl, .bool reg] w fun e w' => ∃ v, e = .returned (.tuple #[v, .int .i64 (Px.lmLst c l reg n 0 0 0), .bool true]) ∧ w'.ownsRow 0 3 1 v full.length (full.map (Value.int .i64)) ∧ (∀ b, v.ownBlock = some b → w.heap.size ≤ b) ∧ w.grownBy w' none := by
  have HC := Aside.mk' hC
  have HPL := Aside.mk' (plan_call n An As Au Ah Al kn ks ku kh kl hn hl hT w r0 r1 r2 r3 r4 nk ns nz full hp)
  clear hC r0 r1 r2 r3 r4 hT hl nk ns nz hp
  unfold limV at HC ⊢
  have hn0 := heap_alloc_new w (.cells #[.slice An n kn, .slice As n ks, .slice Au n ku, .slice Ah n kh] 26)
  have y0 : (w.alloc (.cells #[.slice An n kn, .slice As n ks, .slice Au n ku, .slice Ah n kh] 26)).cell? ⟨w.heap.size, 0, none⟩ = some (.slice An n kn) := by unfold World.cell?; simp only [hn0]; rfl
  have y1 : (w.alloc (.cells #[.slice An n kn, .slice As n ks, .slice Au n ku, .slice Ah n kh] 26)).cell? ⟨w.heap.size, 1, none⟩ = some (.slice As n ks) := by unfold World.cell?; simp only [hn0]; rfl
  have y2 : (w.alloc (.cells #[.slice An n kn, .slice As n ks, .slice Au n ku, .slice Ah n kh] 26)).cell? ⟨w.heap.size, 2, none⟩ = some (.slice Au n ku) := by unfold World.cell?; simp only [hn0]; rfl
  have y3 : (w.alloc (.cells #[.slice An n kn, .slice As n ks, .slice Au n ku, .slice Ah n kh] 26)).cell? ⟨w.heap.size, 3, none⟩ = some (.slice Ah n kh) := by unfold World.cell?; simp only [hn0]; rfl
  clear hn0
  go_enter Go.Proofs.Try.func35, Go.Proofs.Try.ntmps35
  go_wp2_with (first
    | (go_at_call 17; refine (HC.out _ (World.grownBy_alloc _ _ _)).mono ?_; rintro e w2 ⟨rfl, hb2⟩; have HB2 := Aside.mk' hb2; have z0 := (Below.grown' hb2 none).cell y0 (by simp); have z1 := (Below.grown' hb2 none).cell y1 (by simp); have z2 := (Below.grown' hb2 none).cell y2 (by simp); have z3 := (Below.grown' hb2 none).cell y3 (by simp); have mk := mk82 w2; clear hb2)
    | (go_at_call 71; refine (HPL.out w2 ((World.grownBy_alloc _ _ _).trans (Below.grown' HB2.out none))).mono ?_; rintro e w3 ⟨v3, rfl, h2, h3, h4⟩; have H2 := Aside.mk' h2; have H3 := Aside.mk' h3; have H4 := Aside.mk' h4; clear h2 h3 h4))
  all_goals go_returns
  all_goals exact ⟨v3, rfl, H2.out, H3.out, H4.out⟩
end Go.Proofs.Ytlfmmkekhponbaa.WkFnRegular
namespace Go.Proofs.Ytlfmmkekhponbaa.WkFnRegular
open Go.RowKit Go.Lib Go.Rx Go.Proofs
theorem add_add {a : Addr} (h : a.spot = none) (i j : Nat) : (a.add i).add j = a.add (i + j) := by
  obtain ⟨b, o, s⟩ := a
  simp only at h
  subst h
  unfold Addr.add
  by_cases h1 : i = 0
  · subst h1; simp
  · by_cases h2 : j = 0
    · subst h2; simp [h1]
    · simp [h1, h2, Nat.add_assoc]
theorem add_spot {a : Addr} (h : a.spot = none) (i : Nat) : (a.add i).spot = none := by
  unfold Addr.add
  split
  · exact h
  · rfl
theorem tot_ok [Laid Go.Proofs.Try.prog] (hD : ∀ w T, Laid.D Go.Proofs.Try.prog w T) {TT : List Int → Option (Int × Unit)} (hTot : Sat Go.Proofs.Try.prog 77 ⟨.none, [.slice 3 (.int .i64)], .int .i64, 1, .ro, fun _ x => TT x.1⟩) {A : LimA} {c : (List Int × List Int × List Int × List Int)} {l : List Int} {reg : Bool} (hn : c.1.length = A.n)
    (hTT : ∀ i, i ≤ A.n → TT (c.1.drop i) = some ((c.1.drop i).sum, ())) : TotOk A c l reg := by
  intro w1 i hW hi
  have hlen : (c.1.drop i).length = A.n - i := by simp [hn]
  have hnk := hW.nk
  have hold : Holds w1 (fun _ k => k < w1.heap.size) (.slice 3 (.int .i64)) .ro (c.1.drop i) (.hd (.slice (if A.kn = i then A.An else Option.map (fun x => x.add i) A.An) (A.n - i) (A.kn - i))) := by
    unfold Holds
    refine ⟨⟨_, A.kn - i, by rw [hlen]; rfl, by omega, ?_, ?_, ?_, ?_⟩, fun _ _ => trivial⟩
    · intro hx a ha
      have hpos : 0 < A.n := by
        have : (c.1.drop i).length ≠ 0 := fun h => hx (List.length_eq_zero_iff.1 h)
        omega
      split at ha
      · exact hW.ns a ha hpos
      · rw [Option.map_eq_some_iff] at ha
        obtain ⟨a0, h0, rfl⟩ := ha
        exact add_spot (hW.ns a0 h0 hpos) i
    · intro ha
      split at ha
      · have := hW.nz ha; omega
      · rw [Option.map_eq_none_iff] at ha
        have := hW.nz ha; omega
    · intro hx
      have hlt : i < A.n := by
        have : (c.1.drop i).length ≠ 0 := fun h => hx (List.length_eq_zero_iff.1 h)
        omega
      obtain ⟨a, h1, h2, _⟩ := hW.e0 i hlt
      rw [if_neg (by omega), h1]
      refine ⟨_, rfl, ?_⟩
      have := World.block_lt_of_cell? w1 _ h2
      simpa using this
    · intro a ha j u hj
      have hcat : catN (fun i_1 => cells (.int .i64) ((c.1.drop i).getD i_1 (Ty.dflt (.int .i64))) ((Gh.hd (.slice (if A.kn = i then A.An else Option.map (fun x => x.add i) A.An) (A.n - i) (A.kn - i))).at i_1)) (c.1.drop i).length = (c.1.drop i).map (Value.int .i64) := by
        rw [catN_ints _ _ _ _ (Nat.le_refl _), List.take_length]
      rw [hcat] at hj
      have hjl : j < A.n - i := by have := (List.getElem?_eq_some_iff.1 hj).1; simpa [hn] using this
      obtain ⟨a0, h1, h2, _⟩ := hW.e0 (i + j) (by omega)
      rw [if_neg (by omega), h1] at ha
      simp only [Option.map_some, Option.some.injEq] at ha
      subst ha
      rw [add_add (hW.ns a0 h1 (by omega)), h2]
      rw [List.getElem?_map, List.getElem?_drop] at hj
      rw [← hj]
      have hij : i + j < c.1.length := by omega
      rw [List.getElem?_eq_getElem hij]
      simp [gd, hij]
  refine (hTot.2 w1 (fun _ k => k < w1.heap.size) () .leaf 0 (c.1.drop i, ()) [] _ _ rfl ⟨.hd (.slice (if A.kn = i then A.An else Option.map (fun x => x.add i) A.An) (A.n - i) (A.kn - i)), [], rfl, hold, rfl⟩ (by simp [givFeet]) (by simp [givFeet]) (fun e k hk => ⟨hk, by simp [givFeet]⟩) (hD _ _) (hTT i hi)).mono ?_
  rintro e w' ⟨v, rfl, g', gh', T', hfr, hv, _⟩
  refine ⟨?_, ⟨hfr.os, hfr.tape, hfr.output, hfr.size, fun k hk => hfr.block k hk (by simp [givFeet])⟩⟩
  rw [hv]
  rfl
theorem limited_no {reg : Bool} (n : Nat) (An As Au Ah Al : Option Addr) (n1 n2 n3 nl kn ks ku kh kl : Nat) (can ok : Bool) (hno : (can && ok) = false) (w : World)
    (hC : ∀ w1, w.grownBy w1 none → Calls Go.Proofs.Try.prog 17 #[.agg #[.slice An n kn, .slice As n1 ks, .slice Au n2 ku, .slice Ah n3 kh], .slice Al nl kl] w1 fun e w' => e = .returned (.tuple #[.bool can, .bool ok]) ∧ Below w1.heap.size w1 w') :
    Calls Go.Proofs.Try.prog 35 #[.agg #[.slice An n kn, .slice As n1 ks, .slice Au n2 ku, .slice Ah n3 kh], .slice Al nl kl, .bool reg] w fun e w' => e = .returned (.tuple #[.slice none 0 0, .int .i64 0, .bool false]) ∧ w.grownBy w' none := by
  have HC := Aside.mk' hC
  clear hC
  cases can <;> cases ok <;> first | (cases hno; done) | skip
  all_goals (
    go_enter Go.Proofs.Try.func35, Go.Proofs.Try.ntmps35
    go_wp2_with (go_at_call 17; refine (HC.out _ (World.grownBy_alloc _ _ _)).mono ?_; rintro e w2 ⟨rfl, hb2⟩; have HB2 := Aside.mk' hb2; clear hb2)
    all_goals go_returns
    all_goals exact ⟨rfl, (World.grownBy_alloc _ _ _).trans (Below.grown' HB2.out none)⟩)
abbrev CaseT : Ty := .prod (.slice 3 (.int .i64)) (.prod (.slice 3 (.int .i64)) (.prod (.slice 3 (.int .i64)) (.slice 3 (.int .i64))))
theorem holds_slice {w : World} {T : TypeId → Nat → Prop} {xs : List Int} {g : Gh} (hT : ∀ e k, T e k → k < w.heap.size) (h : Holds w T (.slice 3 (.int .i64)) .ro xs g) : ∃ A cap, g.head = .slice A xs.length cap ∧ xs.length ≤ cap ∧ (A = none → cap = 0) ∧ (xs ≠ [] → ∀ a, A = some a → a.spot = none) ∧ RowAt w xs.length A (fun j => gd xs j 0) := by
  unfold Holds at h
  obtain ⟨⟨A, cap, q1, q2, q3, q4, q5, q6⟩, _⟩ := h
  refine ⟨A, cap, q1, q2, q4, q3, fun j hj => ?_⟩
  have hx : xs ≠ [] := by rintro rfl; simp at hj
  obtain ⟨a, ha, hTa⟩ := q5 hx
  refine ⟨a, ha, ?_, hT _ _ hTa⟩
  have hcat : catN (fun i => cells (.int .i64) (xs.getD i (Ty.dflt (.int .i64))) (g.at i)) xs.length = xs.map (Value.int .i64) := by
    rw [catN_ints _ _ _ _ (Nat.le_refl _), List.take_length]
  refine q6 a ha j _ ?_
  rw [hcat, List.getElem?_map, List.getElem?_eq_getElem hj]
  simp [gd, hj]
theorem sat_limited [Laid Go.Proofs.Try.prog] (hD : ∀ w T, Laid.D Go.Proofs.Try.prog w T) {G : (List Int × List Int × List Int × List Int) → List Int → Option ((Bool × Bool) × Unit)} {TT : List Int → Option (Int × Unit)}
    (hC : Sat Go.Proofs.Try.prog 17 ⟨.none, [CaseT, .slice 3 (.int .i64)], .prod .bool .bool, 2, .ro, fun _ x => G x.1 x.2.1⟩) (hTot : Sat Go.Proofs.Try.prog 77 ⟨.none, [.slice 3 (.int .i64)], .int .i64, 1, .ro, fun _ x => TT x.1⟩) :
    Sat Go.Proofs.Try.prog 35 ⟨.none, [CaseT, .slice 3 (.int .i64), .bool], .prod (.slice 3 (.int .i64)) (.prod (.int .i64) .bool), 3, .pr (.own .ro) .ro, fun _ x => Px.lmG G TT x.1 x.2.1 x.2.2.1⟩ := by
  refine ⟨⟨Go.Proofs.Try.f35, _, Go.Proofs.Try.func35, by kernel_rfl, rfl⟩, fun w T x gh b xs vs0 vs r hg ha hnd hlt hT _ hr => ?_⟩
  have hg' : vs0 = [] := hg
  subst hg'
  obtain ⟨c, l, reg, u⟩ := xs
  obtain ⟨g, vs', rfl, hh, gl, vs2, rfl, hl, gr, vs3, rfl, hreg, h3⟩ := ha
  have h3' : vs3 = [] := h3
  subst h3'
  have hT' : ∀ e k, T e k → k < w.heap.size := fun e k hk => (hT e k hk).1
  have hr' : Px.lmG G TT c l reg = some r := hr
  have hc := hh
  simp only [Holds] at hc
  obtain ⟨hc0, hc1, hc2, hc3⟩ := hc
  obtain ⟨An, kn, q0, nk, nz, ns, r0⟩ := holds_slice hT' hc0
  obtain ⟨As, ks, q1, _, _, _, r1⟩ := holds_slice hT' hc1
  obtain ⟨Au, ku, q2, _, _, _, r2⟩ := holds_slice hT' hc2
  obtain ⟨Ah, kh, q3, _, _, _, r3⟩ := holds_slice hT' hc3
  obtain ⟨Al, kl, q4, _, _, _, r4⟩ := holds_slice hT' hl
  have hv0 : toV CaseT (cells CaseT c g) = .agg #[.slice An c.1.length kn, .slice As c.2.1.length ks, .slice Au c.2.2.1.length ku, .slice Ah c.2.2.2.length kh] := by
    simp only [toV, Ty.agg, cells, if_true]
    rw [show g.l.head = _ from q0, show g.r.l.head = _ from q1, show g.r.r.l.head = _ from q2, show g.r.r.r.head = _ from q3]
    rfl
  have hv1 : toV (.slice 3 (.int .i64)) (cells (.slice 3 (.int .i64)) l gl) = .slice Al l.length kl := by simp [toV, Ty.agg, cells, q4]
  have hv2 : toV .bool (cells .bool reg gr) = .bool reg := by simp [toV, Ty.agg, cells]
  rw [hv0, hv1, hv2]
  obtain ⟨rc, hGc⟩ : ∃ rc, G c l = some rc := by
    unfold Px.lmG at hr'
    cases hG : G c l with
    | none => rw [hG] at hr'; cases hr'
    | some z => exact ⟨z, rfl⟩
  have hCall : ∀ w1, w.grownBy w1 none → Calls Go.Proofs.Try.prog 17 #[.agg #[.slice An c.1.length kn, .slice As c.2.1.length ks, .slice Au c.2.2.1.length ku, .slice Ah c.2.2.2.length kh], .slice Al l.length kl] w1 fun e w' => e = .returned (.tuple #[.bool rc.1.1, .bool rc.1.2]) ∧ Below w1.heap.size w1 w' := fun w1 hg1 => by
    have hag : ∀ e k, T e k → w1.heap[k]? = w.heap[k]? ∧ T e k := fun e k hk => ⟨hg1.block k (hT' e k hk) (by simp), hk⟩
    have hh1 : Holds w1 T CaseT .ro c g := Holds.agree CaseT .ro c g hh (fun k hk => by rw [foot_ro] at hk; cases hk) hag
    have hl1 : Holds w1 T (.slice 3 (.int .i64)) .ro l gl := Holds.agree _ .ro l gl hl (fun k hk => by rw [foot_ro] at hk; cases hk) hag
    refine (hC.2 w1 T () .leaf 0 (c, (l, ())) [] _ rc rfl ⟨g, [.slice Al l.length kl], by rw [hv0], hh1, gl, [], by rw [hv1], hl1, rfl⟩ (by simp [givFeet]) (by simp [givFeet]) (fun e k hk => ⟨Nat.lt_of_lt_of_le (hT' e k hk) hg1.size, by simp [givFeet]⟩) (hD _ _) hGc).mono ?_
    rintro e w' ⟨v, rfl, g', gh', T'', hfr, hv, _⟩
    refine ⟨?_, ⟨hfr.os, hfr.tape, hfr.output, hfr.size, fun k hk => hfr.block k hk (by simp [givFeet])⟩⟩
    rw [hv]
    rfl
  have fin : ∀ (xs : List Int) (cost : Int) (f : Bool) (v : Value) (w' : World), r = ((xs, cost, f), ()) → w'.ownsRow 0 3 1 v xs.length (xs.map (Value.int .i64)) → (∀ b, v.ownBlock = some b → w.heap.size ≤ b) → w.grownBy w' none →
      RetOk ⟨.none, [CaseT, .slice 3 (.int .i64), .bool], .prod (.slice 3 (.int .i64)) (.prod (.int .i64) .bool), 3, .pr (.own .ro) .ro, fun _ x => Px.lmG G TT x.1 x.2.1 x.2.2.1⟩ w T x gh b r (.tuple #[v, .int .i64 cost, .bool f]) w' := by
    intro xs cost f v w' hrx hown hfr hgw
    subst hrx
    have hfoot : foot (.prod (.slice 3 (.int .i64)) (.prod (.int .i64) .bool)) (.pr (.own .ro) .ro) (xs, cost, f) (.pr (.row v fun _ => .leaf) .leaf) = v.ownBlock.toList := by
      show (v.ownBlock.toList ++ catF (fun i => foot (.int .i64) .ro (xs.getD i (Ty.dflt (.int .i64))) ((Gh.row v fun _ => .leaf).at i)) xs.length) ++ [] = _
      simp only [foot]
      rw [catF_nil (fun _ _ => rfl), List.append_nil, List.append_nil]
    have hcat : catN (fun i => cells (.int .i64) (xs.getD i (Ty.dflt (.int .i64))) ((Gh.row v fun _ => .leaf).at i)) xs.length = xs.map (Value.int .i64) := by
      rw [catN_ints _ _ _ _ (Nat.le_refl _), List.take_length]
    refine ⟨.pr (.row v fun _ => .leaf) .leaf, .leaf, T, ⟨hgw.os, hgw.tape, hgw.output, hgw.size, fun k hk _ => hgw.block k hk (by simp)⟩, rfl, ?_, trivial, ?_, ?_, ?_⟩
    · simp only [Holds]
      have hO : OwnR w' (.int .i64) 3 1 v xs.length (catN (fun i => cells (.int .i64) (xs.getD i (Ty.dflt (.int .i64))) ((Gh.row v fun _ => .leaf).at i)) xs.length) := OwnR.of (b := 0) (by rw [hcat]; exact hown)
      exact ⟨⟨hO, fun _ _ => trivial⟩, trivial, trivial⟩
    · show (foot (.prod (.slice 3 (.int .i64)) (.prod (.int .i64) .bool)) (.pr (.own .ro) .ro) (xs, cost, f) (.pr (.row v fun _ => .leaf) .leaf) ++ []).Nodup
      rw [List.append_nil, hfoot]
      cases v.ownBlock <;> simp
    · intro k hk
      have hk' : k ∈ foot (.prod (.slice 3 (.int .i64)) (.prod (.int .i64) .bool)) (.pr (.own .ro) .ro) (xs, cost, f) (.pr (.row v fun _ => .leaf) .leaf) := by simpa [backFeet] using hk
      rw [hfoot] at hk'
      have hko : v.ownBlock = some k := by simpa using hk'
      exact ⟨ownBlock_lt hown hko, .inl (hfr k hko)⟩
    · intro e k hk
      refine ⟨.inl hk, Nat.lt_of_lt_of_le (hT' e k hk) hgw.size, fun hk2 => ?_⟩
      have hk' : k ∈ foot (.prod (.slice 3 (.int .i64)) (.prod (.int .i64) .bool)) (.pr (.own .ro) .ro) (xs, cost, f) (.pr (.row v fun _ => .leaf) .leaf) := by simpa [backFeet] using hk2
      rw [hfoot] at hk'
      have h1 := hfr k (by simpa using hk')
      have h2 := hT' e k hk
      omega
  unfold Px.lmG at hr'
  rw [hGc] at hr'
  simp only [Option.bind_some] at hr'
  cases hq : rc.1.1 && rc.1.2 with
  | false =>
    rw [hq] at hr'
    simp only [cond_false, Option.some.injEq] at hr'
    refine (limited_no c.1.length An As Au Ah Al c.2.1.length c.2.2.1.length c.2.2.2.length l.length kn ks ku kh kl rc.1.1 rc.1.2 hq w hCall).mono ?_
    rintro e w' ⟨rfl, hgw⟩
    exact ⟨_, rfl, fin [] 0 false (.slice none 0 0) w' hr'.symm (World.ownsRow_nil _ _ _ _) (by simp [Value.ownBlock]) hgw⟩
  | true =>
    rw [hq] at hr'
    simp only [cond_true] at hr'
    obtain ⟨hB, hr2⟩ := chk_some hr'
    simp only [Px.lmB, Bool.and_eq_true, decide_eq_true_eq, List.all_eq_true, List.mem_range] at hB
    obtain ⟨⟨l1, l2, l3, l4, l8⟩, hlm, htt⟩ := hB
    cases hpl : Px.lmPlan c l reg c.1.length 0 0 0 with
    | none => rw [hpl] at hr2; cases hr2
    | some full =>
      rw [hpl] at hr2
      simp only [Option.bind_some, Option.some.injEq] at hr2
      simp only [Bool.and_eq_true] at hq
      rw [l1] at r1 hCall
      rw [l2] at r2 hCall
      rw [l3] at r3 hCall
      rw [l4] at r4 hCall
      rw [l1, l2, l3, l4]
      rw [hq.1, hq.2] at hCall
      have hl0 : ∀ j : Nat, j < c.1.length → 0 ≤ gd l j 0 ∧ gd l j 0 ≤ 160 := fun j hj => by
        have hj' : j < l.length := by omega
        have := hlm (l[j]) (List.getElem_mem hj')
        simpa [gd, hj'] using this
      refine (limited_walk (reg := reg) c.1.length An As Au Ah Al kn ks ku kh kl l8 hl0 (fun b m => tot_ok hD hTot rfl (fun i hi => htt i (by have hi2 : i ≤ c.1.length := hi; show i < c.1.length + 1; omega))) w r0 r1 r2 r3 r4 nk (fun a ha hpos => ns (by rintro e; rw [e] at hpos; simp at hpos) a ha) nz hCall full hpl).mono ?_
      rintro e w' ⟨v, rfl, h2, h3, h4⟩
      exact ⟨_, rfl, fin full _ true v w' hr2.symm h2 h3 h4⟩
end Go.Proofs.Ytlfmmkekhponbaa.WkFnRegular
